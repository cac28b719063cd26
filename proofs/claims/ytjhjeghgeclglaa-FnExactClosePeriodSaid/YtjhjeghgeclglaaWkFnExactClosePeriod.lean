/- Plain laws for FnExactClosePeriod (what the printed functions compute). -/
import Derived.Test.YtjhjeghgeclglaaPFnExactClosePeriodx
import Derived.Test.YtjhjeghgeclglaaEv
import Derived.Deep.RegionHeld3
import Derived.Test.YtjhjeghgeclglaaMkFnExactClosePeriod
namespace Go.Proofs.Ytjhjeghgeclglaa.PureFnExactClosePeriod
open Go.RowKit Go.Proofs.Ytjhjeghgeclglaa.PFnExactClosePeriod Go.Proofs.YtjhjeghgeclglaaW.PrintWords Go.Proofs.YtjhjeghgeclglaaW.PrintLast Go.Proofs.YtjhjeghgeclglaaW.PrintMore Go.Proofs.YtjhjeghgeclglaaEv
set_option linter.unusedVariables false
set_option maxHeartbeats 8000000 in
set_option maxRecDepth 100000 in
theorem law_calls (ks kt k3 k4 k5 k6 k7 k9 k10 : Nat) (A0 : Option Addr) (c0 : Nat) (l0 : List S64) (w : World)
    (hr0 : Kd.C k64 w A0 l0.length l0) (hc0 : l0.length ≤ c0) (day : Int)
    (t : Int) (j j2 g g2 : List S66) (b : Bool) (q2 m : Int)
    (hsz : laws_szDocumentS.f ks l0 1048576 = some t) (ht : ¬ t < 0) (hto : laws_toDocumentS.f kt l0 = some j) (hsp : spec_ClosePeriod.f k3 j day = some (g, b)) (him : impl_ClosePeriod.f k4 j day = some (g, b))
    (heq : laws_eqDocumentS.f k5 g g = some true) (heo : laws_eqDocumentS.f k6 j j = some true) (hm1 : markDoc.l0 k7 j 1 0 = some (q2, j2)) (hq2 : ¬ q2 < 0)
    (hm3 : markDoc.l0 k9 g 1 0 = some (m, g2)) (hh : laws_heldDocumentS.f k10 g2 1 = some m) (hm : ¬ m < 0) :
    Calls Try.prog 7 #[.slice A0 l0.length c0, .int .i64 day] w fun e w' => e = .returned (.bool true) ∧ Below w.heap.size w w' := by
  have R0 := Aside0.mk hr0
  have C0 := Aside0.mk hc0
  have SZ := Aside0.mk hsz
  have TO := Aside0.mk hto
  have SP := Aside0.mk hsp
  have IM := Aside0.mk him
  have EQ := Aside0.mk heq
  have EO := Aside0.mk heo
  have M1 := Aside0.mk hm1
  have M3 := Aside0.mk hm3
  have HH := Aside0.mk hh
  have tb : decide (t < 0) = false := decide_eq_false ht
  have q2b : decide (q2 < 0) = false := decide_eq_false hq2
  have mb : decide (m < 0) = false := decide_eq_false hm
  have bb : (b != b) = false := by cases b <;> rfl
  clear hr0 hc0 hsz hto hsp him heq heo hm1 hm3 hh ht hq2 hm
  go_enter Try.func7, Try.ntmps7
  go_wp2_with fail
  refine (laws_szDocumentS.calls ks _ _ _ _ _ _ R0.out C0.out SZ.out).mono ?_
  rintro e w1 ⟨rfl, hb1⟩
  have BB := Aside0.mk hb1
  clear hb1
  -- w0, w1 := spec(toDocumentS(aL))
  go_wp2_with fail
  refine (laws_toDocumentS.calls kt _ _ _ _ _ (Kd.C_below R0.out BB.out) C0.out TO.out).mono ?_
  rintro e w2 ⟨u0, rfl, hj, hb⟩
  obtain ⟨Au0, cu0, eu0⟩ := Kd.S_slice hj
  subst eu0
  have hj' := Kd.S_reads' hj
  have BB2 := Aside0.mk (below_then BB.out BB.out.size hb)
  clear BB hj hb
  go_wp2_with fail
  refine (spec_ClosePeriod.calls k3 _ _ _ _ _ _ _ hj'.2.2 hj'.2.1 SP.out).mono ?_
  rintro e w3 ⟨vw, rfl, hw, hb⟩
  obtain ⟨Aw, cw, ew⟩ := Kd.S_slice hw
  subst ew
  have BB := Aside0.mk (below_then BB2.out BB2.out.size hb)
  have W2 := Aside0.mk BB2.out.size
  have RW := Aside0.mk (Kd.S_mono (ok' := fun k => k < w3.heap.size) (Kd.S_bound hw) (fun k hk => hk.2.2.1))
  have B3 := Aside0.mk BB.out.size
  clear BB2 hw hb hj'
  -- x0 := toDocumentS(aL)
  go_wp2_with fail
  refine (laws_toDocumentS.calls kt _ _ _ _ _ (Kd.C_below R0.out BB.out) C0.out TO.out).mono ?_
  rintro e w4 ⟨u0, rfl, hj, hb⟩
  obtain ⟨Ax, cx, eu0⟩ := Kd.S_slice hj
  subst eu0
  have BB4 := Aside0.mk (below_then BB.out BB.out.size hb)
  have RX4 := Aside0.mk (Kd.S_mono (ok' := fun k => w3.heap.size ≤ k ∧ k < w4.heap.size) (Kd.S_bound hj) (fun k hk => ⟨hk.2.1, hk.2.2.1⟩))
  have RW4 := Aside0.mk (Kd.S_below RW.out hb)
  have W4 := Aside0.mk hb.size
  have BW4 := Aside0.mk BB4.out.size
  have hj' := Kd.S_reads' hj
  clear BB hj hb RW
  -- g0, g1 := impl(x0)
  go_wp2_with fail
  refine (impl_ClosePeriod.calls k4 _ _ _ _ _ _ _ hj'.2.2 hj'.2.1 IM.out).mono ?_
  rintro e w5 ⟨vg, rfl, hg, hb⟩
  obtain ⟨Ag, cg, eg⟩ := Kd.S_slice hg
  subst eg
  have RG5 := Aside0.mk (Kd.S_mono (ok' := fun k => w4.heap.size ≤ k ∧ k < w5.heap.size) (Kd.S_bound hg) (fun k hk => ⟨hk.2.1, hk.2.2.1⟩))
  have BB5 := Aside0.mk (below_then BB4.out BB4.out.size hb)
  have RX5 := Aside0.mk (Kd.S_below RX4.out hb)
  have RW5 := Aside0.mk (Kd.S_below RW4.out hb)
  have S45 := Aside0.mk hb.size
  clear hg hb hj' BB4 RX4 RW4
  have hg' := Kd.S_reads' RG5.out
  have hw' := Kd.S_reads' RW5.out
  go_wp2_with fail
  refine (laws_eqDocumentS.calls k5 _ _ _ _ _ _ _ _ hg'.2.2 hg'.2.1 hw'.2.2 hw'.2.1 EQ.out).mono ?_
  rintro e w6 ⟨rfl, hb⟩
  have RG6 := Aside0.mk (Kd.S_below RG5.out hb)
  have RW6 := Aside0.mk (Kd.S_below RW5.out hb)
  have BB6 := Aside0.mk (below_then BB5.out BB5.out.size hb)
  have RX6 := Aside0.mk (Kd.S_below RX5.out hb)
  have S56 := Aside0.mk hb.size
  clear RG5 RW5 BB5 RX5 hb hg' hw'
  -- eqDocumentS(x0, toDocumentS(aL))
  go_wp2_with fail
  refine (laws_toDocumentS.calls kt _ _ _ _ _ (Kd.C_below R0.out BB6.out) C0.out TO.out).mono ?_
  rintro e w7 ⟨u0, rfl, hj, hb⟩
  obtain ⟨Ay, cy, eu0⟩ := Kd.S_slice hj
  subst eu0
  have hj' := Kd.S_reads' hj
  have RG7 := Aside0.mk (Kd.S_below RG6.out hb)
  have RW7 := Aside0.mk (Kd.S_below RW6.out hb)
  have BB7 := Aside0.mk (below_then BB6.out BB6.out.size hb)
  have RX7 := Aside0.mk (Kd.S_below RX6.out hb)
  have S67 := Aside0.mk hb.size
  have hx' := Kd.S_reads' RX7.out
  clear RG6 RW6 BB6 RX6 hj hb
  go_wp2_with fail
  refine (laws_eqDocumentS.calls k6 _ _ _ _ _ _ _ _ hx'.2.2 hx'.2.1 hj'.2.2 hj'.2.1 EO.out).mono ?_
  rintro e w8 ⟨rfl, hb⟩
  have RG8 := Aside0.mk (Kd.S_below RG7.out hb)
  have RW8 := Aside0.mk (Kd.S_below RW7.out hb)
  have BB8 := Aside0.mk (below_then BB7.out BB7.out.size hb)
  have RX8 := Aside0.mk (Kd.S_lower (Kd.S_below RX7.out hb) B3.out)
  have S78 := Aside0.mk hb.size
  clear RG7 RW7 BB7 RX7 hb hx' hj'
  -- k = markDocumentS(x0, 1)
  go_wp2_with fail
  refine (markDoc.calls k7 _ _ _ _ _ _ w _ BB8.out RX8.out M1.out).mono ?_
  rintro e w9 ⟨rfl, -, hB, hK⟩
  have RG9 := Aside0.mk (Kd.S_kept RG8.out hK (fun k hk h => by have := hk.1; have := h.2; omega))
  have RW9 := Aside0.mk (Kd.S_kept RW8.out hK (fun k hk h => by have := h.1; omega))
  have BB9 := Aside0.mk hB
  have S89 := Aside0.mk hK.1
  clear hB hK RG8 RW8 BB8 RX8
  have hg' := Kd.S_reads' RG9.out
  have hw' := Kd.S_reads' RW9.out
  go_wp2_with fail
  refine (laws_eqDocumentS.calls k5 _ _ _ _ _ _ _ _ hg'.2.2 hg'.2.1 hw'.2.2 hw'.2.1 EQ.out).mono ?_
  rintro e w10 ⟨rfl, hb⟩
  have RG10 := Aside0.mk (Kd.S_lower (Kd.S_below RG9.out hb) BW4.out)
  have RW10 := Aside0.mk (Kd.S_below RW9.out hb)
  have BB10 := Aside0.mk (below_then BB9.out BB9.out.size hb)
  have S4X : Aside0 (w4.heap.size ≤ w10.heap.size) := ⟨by have := S45.out; have := S56.out; have := S67.out; have := S78.out; have := S89.out; have := hb.size; omega⟩
  clear hg' hw' RG9 RW9 BB9 hb
  -- m = markDocumentS(g0, 1)
  go_wp2_with fail
  refine (markDoc.calls k9 _ _ _ _ _ _ w _ BB10.out RG10.out M3.out).mono ?_
  rintro e w12 ⟨rfl, hR, hB, hK⟩
  have RG12 := Aside0.mk (Kd.S_mono (ok' := fun k => w4.heap.size ≤ k) hR (fun k hk => hk.elim (fun h => h.1) (fun h => Nat.le_trans S4X.out h)))
  have RW12 := Aside0.mk (Kd.S_kept RW10.out hK (fun k hk h => by have := h.1; have := W4.out; omega))
  have BB12 := Aside0.mk hB
  clear hR hB hK RG10 RW10 BB10
  have hg' := Kd.S_reads' RG12.out
  have eg := Aside0.mk hg'.1
  have HE := laws_heldDocumentS.calls k10 Ag cg g2 1 m w12 hg'.2.2 (by have := hg'.2.1; have := hg'.1; omega) HH.out
  rw [← eg.out] at HE
  have HE' := Aside0.mk HE
  clear HE hg'
  go_wp2_with fail
  refine HE'.out.mono ?_
  rintro e w13 ⟨rfl, hb⟩
  have RG13 := Aside0.mk (Kd.S_below RG12.out hb)
  have RW13 := Aside0.mk (Kd.S_below RW12.out hb)
  have BB13 := Aside0.mk (below_then BB12.out BB12.out.size hb)
  clear RG12 RW12 BB12 hb HE'
  -- h0, h1 := impl(toDocumentS(aL))
  go_wp2_with fail
  refine (laws_toDocumentS.calls kt _ _ _ _ _ (Kd.C_below R0.out BB13.out) C0.out TO.out).mono ?_
  rintro e w14 ⟨u0, rfl, hj, hb⟩
  obtain ⟨Az, cz, eu0⟩ := Kd.S_slice hj
  subst eu0
  have hj' := Kd.S_reads' hj
  have RG14 := Aside0.mk (Kd.S_below RG13.out hb)
  have RW14 := Aside0.mk (Kd.S_below RW13.out hb)
  have BB14 := Aside0.mk (below_then BB13.out BB13.out.size hb)
  clear RG13 RW13 BB13 hj hb
  go_wp2_with fail
  refine (impl_ClosePeriod.calls k4 _ _ _ _ _ _ _ hj'.2.2 hj'.2.1 IM.out).mono ?_
  rintro e w15 ⟨vh, rfl, hh, hb⟩
  obtain ⟨Ah, ch, eh⟩ := Kd.S_slice hh
  subst eh
  have hh' := Kd.S_reads' hh
  have RG15 := Aside0.mk (Kd.S_below RG14.out hb)
  have RW15 := Aside0.mk (Kd.S_below RW14.out hb)
  have BB15 := Aside0.mk (below_then BB14.out BB14.out.size hb)
  have hw' := Kd.S_reads' RW15.out
  clear RG14 RW14 BB14 hb hj' hh
  go_wp2_with fail
  refine (laws_eqDocumentS.calls k5 _ _ _ _ _ _ _ _ hh'.2.2 hh'.2.1 hw'.2.2 hw'.2.1 EQ.out).mono ?_
  rintro e w16 ⟨rfl, hb⟩
  have RG16 := Aside0.mk (Kd.S_below RG15.out hb)
  have BB16 := Aside0.mk (below_then BB15.out BB15.out.size hb)
  clear RG15 RW15 BB15 hb hh' hw'
  have hg' := Kd.S_reads' RG16.out
  have HE := laws_heldDocumentS.calls k10 Ag cg g2 1 m w16 hg'.2.2 (by have := hg'.2.1; have := hg'.1; omega) HH.out
  rw [← eg.out] at HE
  have HE' := Aside0.mk HE
  clear HE hg'
  go_wp2_with fail
  refine HE'.out.mono ?_
  rintro e w17 ⟨rfl, hb⟩
  have BB17 := Aside0.mk (below_then BB16.out BB16.out.size hb)
  clear RG16 BB16 hb HE'
  go_wp2_with fail
  go_ret
  exact ⟨rfl, BB17.out⟩
def AllOk (ks : Nat) (l0 : List S64) (day : Int) : Prop :=
  ∃ t, laws_szDocumentS.f ks l0 1048576 = some t ∧ (t < 0 ∨ ¬ t < 0 ∧ ∃ (kt k3 k4 k5 k6 k7 k9 k10 : Nat) (j j2 g g2 : List S66) (b : Bool) (q2 m : Int),
    laws_toDocumentS.f kt l0 = some j ∧ spec_ClosePeriod.f k3 j day = some (g, b) ∧ impl_ClosePeriod.f k4 j day = some (g, b) ∧ laws_eqDocumentS.f k5 g g = some true ∧ laws_eqDocumentS.f k6 j j = some true ∧ markDoc.l0 k7 j 1 0 = some (q2, j2) ∧ ¬ q2 < 0 ∧
    markDoc.l0 k9 g 1 0 = some (m, g2) ∧ laws_heldDocumentS.f k10 g2 1 = some m ∧ ¬ m < 0)
set_option maxHeartbeats 8000000 in
set_option maxRecDepth 100000 in
theorem row_calls {ks : Nat} {A0 : Option Addr} {c0 : Nat} {l0 : List S64} {day : Int} {w : World}
    (hr0 : Kd.C k64 w A0 l0.length l0) (hc0 : l0.length ≤ c0) (h : AllOk ks l0 day) :
    Calls Try.prog 7 #[.slice A0 l0.length c0, .int .i64 day] w fun e w' => e = .returned (.bool true) ∧ Below w.heap.size w w' := by
  obtain ⟨t, hsz, h⟩ := h
  rcases h with ht | ⟨ht, kt, k3, k4, k5, k6, k7, k9, k10, j, j2, g, g2, b, q2, m, h1, h2, h3, h4, h5, h7, h8, h9, h10, h11⟩
  · have tb : decide (t < 0) = true := decide_eq_true ht
    have R0 := Aside0.mk hr0
    have C0 := Aside0.mk hc0
    have SZ := Aside0.mk hsz
    clear hr0 hc0 hsz ht
    go_enter Try.func7, Try.ntmps7
    go_wp2_with fail
    refine (laws_szDocumentS.calls ks _ _ _ _ _ _ R0.out C0.out SZ.out).mono ?_
    rintro e w1 ⟨rfl, hb1⟩
    have BB := Aside0.mk hb1
    clear hb1
    go_wp2_with fail
    go_ret
    exact ⟨rfl, BB.out⟩
  · exact law_calls ks kt k3 k4 k5 k6 k7 k9 k10 A0 c0 l0 w hr0 hc0 day t j j2 g g2 b q2 m hsz ht h1 h2 h3 h4 h5 h7 h8 h9 h10 h11

end Go.Proofs.Ytjhjeghgeclglaa.PureFnExactClosePeriod
