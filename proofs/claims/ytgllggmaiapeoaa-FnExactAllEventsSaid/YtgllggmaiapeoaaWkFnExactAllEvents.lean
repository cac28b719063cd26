/- Plain laws for FnExactAllEvents (what the printed functions compute). -/
import Derived.Test.YtgllggmaiapeoaaPFnExactAllEventsx
import Derived.Test.YtgllggmaiapeoaaEv
import Derived.Deep.RegionHeld3
import Derived.Test.YtgllggmaiapeoaaMkFnExactAllEvents
namespace Go.Proofs.Ytgllggmaiapeoaa.PureFnExactAllEvents
open Go.RowKit Go.Proofs.Ytgllggmaiapeoaa.PFnExactAllEvents Go.Proofs.YtgllggmaiapeoaaW.PrintWords Go.Proofs.YtgllggmaiapeoaaW.PrintLast Go.Proofs.YtgllggmaiapeoaaW.PrintMore Go.Proofs.YtgllggmaiapeoaaEv
set_option linter.unusedVariables false
set_option maxHeartbeats 8000000 in
set_option maxRecDepth 100000 in
theorem law_calls (ks kt k3 k4 k5 k6 k7 k8 k9 k10 : Nat) (A0 : Option Addr) (c0 : Nat) (l0 : List S76) (A1 : Option Addr) (c1 : Nat) (l1 : List S84) (w : World)
    (hr0 : Kd.C k76 w A0 l0.length l0) (hc0 : l0.length ≤ c0) (hr1 : Kd.C k84 w A1 l1.length l1) (hc1 : l1.length ≤ c1)
    (t : Int) (j j2 g g2 : List S47) (c c2 : List S45) (q1 q2 m : Int)
    (hsz : laws_szOffice.f ks l0 l1 1048576 = some t) (ht : ¬ t < 0) (hto : laws_toOffice.f kt l0 l1 = some (j, c)) (hsp : spec_AllEvents.f k3 j c = some g) (him : impl_AllEvents.f k4 j c = some g)
    (heq : laws_eqEventS.f k5 g g = some true) (heo : laws_eqOffice.f k6 j c j c = some true) (hm1 : laws_markEventS.f k7 j 1 = some (q1, j2)) (hm2 : markClerk.l0 k8 c q1 0 = some (q2, c2)) (hq2 : ¬ q2 < 0)
    (hm3 : laws_markEventS.f k9 g 1 = some (m, g2)) (hh : laws_heldEventS.f k10 g2 1 = some m) (hm : ¬ m < 0) :
    Calls Try.prog 3 #[.agg #[.slice A0 l0.length c0, .slice A1 l1.length c1]] w fun e w' => e = .returned (.bool true) ∧ Below w.heap.size w w' := by
  have R0 := Aside0.mk hr0
  have R1 := Aside0.mk hr1
  have C0 := Aside0.mk hc0
  have C1 := Aside0.mk hc1
  have SZ := Aside0.mk hsz
  have TO := Aside0.mk hto
  have SP := Aside0.mk hsp
  have IM := Aside0.mk him
  have EQ := Aside0.mk heq
  have EO := Aside0.mk heo
  have M1 := Aside0.mk hm1
  have M2 := Aside0.mk hm2
  have M3 := Aside0.mk hm3
  have HH := Aside0.mk hh
  have tb : decide (t < 0) = false := decide_eq_false ht
  have q2b : decide (q2 < 0) = false := decide_eq_false hq2
  have mb : decide (m < 0) = false := decide_eq_false hm
  clear hr0 hr1 hc0 hc1 hsz hto hsp him heq heo hm1 hm2 hm3 hh ht hq2 hm
  obtain ⟨WB, hWB⟩ : ∃ WB, WB = w.alloc (.cells #[.slice A0 l0.length c0, .slice A1 l1.length c1] 25) := ⟨_, rfl⟩
  have B0 : Aside0 (Below w.heap.size w WB) := ⟨by rw [hWB]; exact below_alloc (Below.refl w.heap.size w) _⟩
  have BX : Aside0 (WB.heap[w.heap.size]? = some (.cells #[.slice A0 l0.length c0, .slice A1 l1.length c1] 25)) := ⟨by rw [hWB]; exact heap_alloc_new w _⟩
  have RB0 := Aside0.mk (Kd.C_below R0.out B0.out)
  have RB1 := Aside0.mk (Kd.C_below R1.out B0.out)
  clear R0 R1
  have HWB := Aside0.mk hWB
  clear hWB
  go_enter Try.func3, Try.ntmps3
  go_wp2_with fail
  rw [← HWB.out]
  refine (laws_szOffice.calls ks _ _ _ _ _ _ _ _ _ RB0.out C0.out RB1.out C1.out SZ.out).mono ?_
  rintro e w1 ⟨rfl, hb1⟩
  have BB := Aside0.mk hb1
  have ba0 : w1.cell? ⟨w.heap.size, 0, none⟩ = some (.slice A0 l0.length c0) := blk_cell ((BB.out.block _ (blk_lt BX.out)).trans BX.out) 0
  have ba1 : w1.cell? ⟨w.heap.size, 1, none⟩ = some (.slice A1 l1.length c1) := blk_cell ((BB.out.block _ (blk_lt BX.out)).trans BX.out) 1
  clear hb1
  -- w0 := spec.AllEvents(toOffice(aO))
  go_wp2_with fail
  refine (laws_toOffice.calls kt _ _ _ _ _ _ _ _ _ (Kd.C_below RB0.out BB.out) C0.out (Kd.C_below RB1.out BB.out) C1.out TO.out).mono ?_
  rintro e w2 ⟨u0, u1, rfl, hj, hc, hb⟩
  obtain ⟨Au0, cu0, eu0⟩ := Kd.R_slice hj
  obtain ⟨Au1, cu1, eu1⟩ := Kd.S_slice hc
  subst eu0 eu1
  have hj' := Kd.R_reads' hj
  have hc' := Kd.S_reads' hc
  have BB2 := Aside0.mk (below_then BB.out BB.out.size hb)
  clear BB ba0 ba1 hj hc hb
  go_wp2_with fail
  refine (spec_AllEvents.calls k3 _ _ _ _ _ _ _ _ hj'.2.2 hj'.2.1 hc'.2.2 hc'.2.1 SP.out).mono ?_
  rintro e w3 ⟨vw, rfl, hw, hb⟩
  have BB := Aside0.mk (below_then BB2.out BB2.out.size hb)
  have W2 := Aside0.mk BB2.out.size
  have RW := Aside0.mk hw
  have B3 := Aside0.mk BB.out.size
  have ba0 : w3.cell? ⟨w.heap.size, 0, none⟩ = some (.slice A0 l0.length c0) := blk_cell ((BB.out.block _ (blk_lt BX.out)).trans BX.out) 0
  have ba1 : w3.cell? ⟨w.heap.size, 1, none⟩ = some (.slice A1 l1.length c1) := blk_cell ((BB.out.block _ (blk_lt BX.out)).trans BX.out) 1
  clear BB2 hw hb hj' hc'
  -- x0 := toOffice(aO)
  go_wp2_with fail
  refine (laws_toOffice.calls kt _ _ _ _ _ _ _ _ _ (Kd.C_below RB0.out BB.out) C0.out (Kd.C_below RB1.out BB.out) C1.out TO.out).mono ?_
  rintro e w4 ⟨u0, u1, rfl, hj, hc, hb⟩
  obtain ⟨Ax0, cx0, eu0⟩ := Kd.R_slice hj
  obtain ⟨Ax1, cx1, eu1⟩ := Kd.S_slice hc
  subst eu0 eu1
  have BB4 := Aside0.mk (below_then BB.out BB.out.size hb)
  have RX0 := Aside0.mk hj
  have RX1 := Aside0.mk hc
  have RW4 := Aside0.mk (Kd.R_below (Kd.R_mono (ok' := fun k => k < w3.heap.size) (Kd.R_bound RW.out) (fun k hk => hk.2.2.1)) hb)
  have W4 := Aside0.mk hb.size
  clear BB ba0 ba1 hj hc hb RW
  -- the variable x0's block
  obtain ⟨W5, hW5⟩ : ∃ W5, W5 = w4.alloc (.cells #[.slice Ax0 j.length cx0, .slice Ax1 c.length cx1] 31) := ⟨_, rfl⟩
  have HW5 := Aside0.mk hW5
  clear hW5
  obtain ⟨bx, hbx⟩ : ∃ bx, bx = w4.heap.size := ⟨_, rfl⟩
  have HBX := Aside0.mk hbx
  clear hbx
  have b45 : Aside0 (Below w4.heap.size w4 W5) := ⟨by rw [HW5.out]; exact below_alloc (Below.refl _ _) _⟩
  have X5 : Aside0 (W5.heap[bx]? = some (.cells #[.slice Ax0 j.length cx0, .slice Ax1 c.length cx1] 31)) := ⟨by rw [HW5.out, HBX.out]; exact heap_alloc_new w4 _⟩
  have BB5 := Aside0.mk (below_then BB4.out BB4.out.size b45.out)
  have RW5 := Aside0.mk (Kd.R_below RW4.out b45.out)
  have BW5 := Aside0.mk BB5.out.size
  have RX05 := Aside0.mk (Kd.R_mono (ok' := fun k => w3.heap.size ≤ k ∧ k < w4.heap.size ∧ some k = (Value.slice Ax0 j.length cx0).ownBlock) (Kd.R_tight2 rfl (Kd.R_bound (Kd.R_below (Kd.R_bound RX0.out) b45.out))) (fun k hk => ⟨hk.2.2.1, hk.2.1.2.2.1, hk.1⟩))
  have RX15 := Aside0.mk (Kd.S_mono (ok' := fun k => w3.heap.size ≤ k ∧ k < w4.heap.size ∧ some k ≠ (Value.slice Ax0 j.length cx0).ownBlock) (Kd.S_below (Kd.S_bound RX1.out) b45.out) (fun k hk => ⟨hk.2.1, hk.2.2.1, hk.1⟩))
  have S45 : Aside0 (w4.heap.size ≤ W5.heap.size) := ⟨b45.out.size⟩
  clear BB4 RW4 RX0 RX1 b45
  go_wp2_with fail
  rw [← HW5.out]
  have hj' := Kd.R_reads' RX05.out
  have hc' := Kd.S_reads' RX15.out
  refine (impl_AllEvents.calls k4 _ _ _ _ _ _ _ _ hj'.2.2 hj'.2.1 hc'.2.2 hc'.2.1 IM.out).mono ?_
  rintro e w6 ⟨vg, rfl, hg, hb⟩
  have RG6 := Aside0.mk (Kd.R_mono (ok' := fun k => W5.heap.size ≤ k ∧ k < w6.heap.size) (Kd.R_bound hg) (fun k hk => ⟨hk.2.1, hk.2.2.1⟩))
  have BB6 := Aside0.mk (below_then BB5.out BB5.out.size hb)
  have X6 := Aside0.mk (blk_below X5.out hb)
  have RW6 := Aside0.mk (Kd.R_below RW5.out hb)
  obtain ⟨Aw, cw, ew⟩ := Kd.R_slice RW6.out
  subst ew
  have RX06 := Aside0.mk (Kd.R_below RX05.out hb)
  have RX16 := Aside0.mk (Kd.S_below RX15.out hb)
  obtain ⟨Ag, cg, eg⟩ := Kd.R_slice hg
  subst eg
  have S56 := Aside0.mk hb.size
  clear hg hb hj' hc' BB5 X5 RX05 RX15
  have hg' := Kd.R_reads' RG6.out
  have hw' := Kd.R_reads' RW6.out
  go_wp2_with fail
  refine (laws_eqEventS.calls k5 _ _ _ _ _ _ _ _ hg'.2.2 hg'.2.1 hw'.2.2 hw'.2.1 EQ.out).mono ?_
  rintro e w7 ⟨rfl, hb⟩
  have RG7 := Aside0.mk (Kd.R_below RG6.out hb)
  have RW7 := Aside0.mk (Kd.R_below RW6.out hb)
  have BB7 := Aside0.mk (below_then BB6.out BB6.out.size hb)
  have X7 := Aside0.mk (blk_below X6.out hb)
  have RX07 := Aside0.mk (Kd.R_below RX06.out hb)
  have RX17 := Aside0.mk (Kd.S_below RX16.out hb)
  have S67 := Aside0.mk hb.size
  clear RG6 RW6 BB6 X6 RX06 RX16 hb hg' hw' RW5
  have ba0 : w7.cell? ⟨w.heap.size, 0, none⟩ = some (.slice A0 l0.length c0) := blk_cell ((BB7.out.block _ (blk_lt BX.out)).trans BX.out) 0
  have ba1 : w7.cell? ⟨w.heap.size, 1, none⟩ = some (.slice A1 l1.length c1) := blk_cell ((BB7.out.block _ (blk_lt BX.out)).trans BX.out) 1
  have bx0 : w7.cell? ⟨w4.heap.size, 0, none⟩ = some (.slice Ax0 j.length cx0) := by rw [← HBX.out]; exact blk_cell X7.out 0
  have bx1 : w7.cell? ⟨w4.heap.size, 1, none⟩ = some (.slice Ax1 c.length cx1) := by rw [← HBX.out]; exact blk_cell X7.out 1
  go_wp2_with fail
  go_region_held3 (fun w' => w'.cell? ⟨w.heap.size, 0, none⟩ = some (.slice A0 l0.length c0) ∧ w'.cell? ⟨w.heap.size, 1, none⟩ = some (.slice A1 l1.length c1) ∧ w'.cell? ⟨w4.heap.size, 0, none⟩ = some (.slice Ax0 j.length cx0) ∧ w'.cell? ⟨w4.heap.size, 1, none⟩ = some (.slice Ax1 c.length cx1) ∧ Below w7.heap.size w7 w')
    (first
      | (exact ⟨ba0, ba1, bx0, bx1, below_drew (Below.refl _ _)⟩)
      | (go_split_ands; exact ⟨pw_cell_below hb8 (by assumption), pw_cell_below hb8 (by assumption), pw_cell_below hb8 (by assumption), pw_cell_below hb8 (by assumption), below_step (by assumption) hb8⟩)
      | (go_split_ands; exact ⟨pw_cell_below hb9 (by assumption), pw_cell_below hb9 (by assumption), pw_cell_below hb9 (by assumption), pw_cell_below hb9 (by assumption), below_step (by assumption) hb9⟩)
      | go_keep)
    (first
      | (go_at_call 12; go_split_ands; refine (laws_toOffice.calls kt _ _ _ _ _ _ _ _ _ (Kd.C_below (Kd.C_below RB0.out BB7.out) (by assumption)) C0.out (Kd.C_below (Kd.C_below RB1.out BB7.out) (by assumption)) C1.out TO.out).mono ?_; rintro e w8 ⟨u0, u1, rfl, hj8, hc8, hb8⟩; obtain ⟨Ay0, cy0, eu0⟩ := Kd.R_slice hj8; obtain ⟨Ay1, cy1, eu1⟩ := Kd.S_slice hc8; subst eu0 eu1)
      | (go_at_call 15; go_split_ands; refine (laws_eqOffice.calls k6 _ _ _ _ _ _ _ _ _ _ _ _ _ _ (Kd.R_reads' (Kd.R_below RX07.out (by assumption))).2.2 (Kd.R_reads' RX07.out).2.1 (Kd.S_reads' (Kd.S_below RX17.out (by assumption))).2.2 (Kd.S_reads' RX17.out).2.1 (Kd.R_reads' hj8).2.2 (Kd.R_reads' hj8).2.1 (Kd.S_reads' hc8).2.2 (Kd.S_reads' hc8).2.1 EO.out).mono ?_; rintro e w9 ⟨rfl, hb9⟩))
  go_split_ands
  have hb79 : Below w7.heap.size w7 w9 := by assumption
  have RG9 := Aside0.mk (Kd.R_below RG7.out hb79)
  have RW9 := Aside0.mk (Kd.R_below RW7.out hb79)
  have BB9 := Aside0.mk (below_then BB7.out BB7.out.size hb79)
  have X9 := Aside0.mk (blk_below X7.out hb79)
  have RX09 := Aside0.mk (Kd.R_lower (Kd.R_below RX07.out hb79) B3.out)
  have RX19 := Aside0.mk (Kd.S_lower (Kd.S_below RX17.out hb79) B3.out)
  have S79 := Aside0.mk hb79.size
  clear hb8 hb9 hj8 hc8 RG7 RW7 BB7 X7 RX07 RX17
  clear ba0 ba1 bx0 bx1
  have bx0 : w9.cell? ⟨w4.heap.size, 0, none⟩ = some (.slice Ax0 j.length cx0) := by rw [← HBX.out]; exact blk_cell X9.out 0
  have bx1 : w9.cell? ⟨w4.heap.size, 1, none⟩ = some (.slice Ax1 c.length cx1) := by rw [← HBX.out]; exact blk_cell X9.out 1
  clear hb79
  go_wp2_with fail
  refine (markOffice.calls k7 k8 _ _ _ _ _ _ _ _ _ _ _ WB _ BB9.out RX09.out RX19.out (fun k h1 h0 => h1.2.2 h0.2.2) M1.out M2.out).mono ?_
  rintro e w10 ⟨rfl, -, -, hB, hK⟩
  have nx : ∀ k, (w3.heap.size ≤ k ∧ k < w4.heap.size ∧ some k = (Value.slice Ax0 j.length cx0).ownBlock ∨ w3.heap.size ≤ k ∧ k < w4.heap.size ∧ some k ≠ (Value.slice Ax0 j.length cx0).ownBlock) → w3.heap.size ≤ k ∧ k < w4.heap.size := fun k hk => hk.elim (fun h => ⟨h.1, h.2.1⟩) (fun h => ⟨h.1, h.2.1⟩)
  have RG10 := Aside0.mk (Kd.R_kept RG9.out hK (fun k hk h => by have := (nx k h).2; have := hk.1; have := S45.out; omega))
  have RW10 := Aside0.mk (Kd.R_kept RW9.out hK (fun k hk h => by have := (nx k h).1; omega))
  have BB10 := Aside0.mk hB
  have S9X := Aside0.mk hK.1
  clear hB hK nx RG9 RW9 BB9 X9 RX09 RX19 bx0 bx1
  have hg' := Kd.R_reads' RG10.out
  have hw' := Kd.R_reads' RW10.out
  go_wp2_with fail
  refine (laws_eqEventS.calls k5 _ _ _ _ _ _ _ _ hg'.2.2 hg'.2.1 hw'.2.2 hw'.2.1 EQ.out).mono ?_
  rintro e w11 ⟨rfl, hb⟩
  have RG11 := Aside0.mk (Kd.R_lower (Kd.R_below RG10.out hb) BW5.out)
  have RW11 := Aside0.mk (Kd.R_below RW10.out hb)
  have BB11 := Aside0.mk (below_then BB10.out BB10.out.size hb)
  have S5X : Aside0 (W5.heap.size ≤ w11.heap.size) := ⟨by have := S56.out; have := S67.out; have := S79.out; have := S9X.out; have := hb.size; omega⟩
  clear hg' hw' RG10 RW10 BB10 hb
  go_wp2_with fail
  refine (laws_markEventS.calls k9 _ _ _ _ _ _ WB _ BB11.out RG11.out M3.out).mono ?_
  rintro e w12 ⟨rfl, hR, hB, hK⟩
  have RG12 := Aside0.mk (Kd.R_mono (ok' := fun k => W5.heap.size ≤ k) hR (fun k hk => hk.elim (fun h => h.1) (fun h => Nat.le_trans S5X.out h)))
  have RW12 := Aside0.mk (Kd.R_kept RW11.out hK (fun k hk h => by have := h.1; have := S45.out; have := W4.out; omega))
  have BB12 := Aside0.mk hB
  clear hR hB hK RG11 RW11 BB11
  have hg' := Kd.R_reads' RG12.out
  have eg := Aside0.mk hg'.1
  have HE := laws_heldEventS.calls k10 Ag cg g2 1 m w12 hg'.2.2 (by have := hg'.2.1; have := hg'.1; omega) HH.out
  rw [← eg.out] at HE
  have HE' := Aside0.mk HE
  clear HE hg'
  go_wp2_with fail
  refine HE'.out.mono ?_
  rintro e w13 ⟨rfl, hb⟩
  have RG13 := Aside0.mk (Kd.R_below RG12.out hb)
  have RW13 := Aside0.mk (Kd.R_below RW12.out hb)
  have BB13 := Aside0.mk (below_then BB12.out BB12.out.size hb)
  clear RG12 RW12 BB12 hb HE'
  have ba0 : w13.cell? ⟨w.heap.size, 0, none⟩ = some (.slice A0 l0.length c0) := blk_cell ((BB13.out.block _ (blk_lt BX.out)).trans BX.out) 0
  have ba1 : w13.cell? ⟨w.heap.size, 1, none⟩ = some (.slice A1 l1.length c1) := blk_cell ((BB13.out.block _ (blk_lt BX.out)).trans BX.out) 1
  -- h0 := impl.AllEvents(toOffice(aO))
  go_wp2_with fail
  refine (laws_toOffice.calls kt _ _ _ _ _ _ _ _ _ (Kd.C_below RB0.out BB13.out) C0.out (Kd.C_below RB1.out BB13.out) C1.out TO.out).mono ?_
  rintro e w14 ⟨u0, u1, rfl, hj, hc, hb⟩
  obtain ⟨Az0, cz0, eu0⟩ := Kd.R_slice hj
  obtain ⟨Az1, cz1, eu1⟩ := Kd.S_slice hc
  subst eu0 eu1
  have hj' := Kd.R_reads' hj
  have hc' := Kd.S_reads' hc
  have RG14 := Aside0.mk (Kd.R_below RG13.out hb)
  have RW14 := Aside0.mk (Kd.R_below RW13.out hb)
  have BB14 := Aside0.mk (below_then BB13.out BB13.out.size hb)
  clear RG13 RW13 BB13 hj hc hb ba0 ba1
  go_wp2_with fail
  refine (impl_AllEvents.calls k4 _ _ _ _ _ _ _ _ hj'.2.2 hj'.2.1 hc'.2.2 hc'.2.1 IM.out).mono ?_
  rintro e w15 ⟨vh, rfl, hh, hb⟩
  obtain ⟨Ah, ch, eh⟩ := Kd.R_slice hh
  subst eh
  have hh' := Kd.R_reads' hh
  have RG15 := Aside0.mk (Kd.R_below RG14.out hb)
  have RW15 := Aside0.mk (Kd.R_below RW14.out hb)
  have BB15 := Aside0.mk (below_then BB14.out BB14.out.size hb)
  have hw' := Kd.R_reads' RW15.out
  clear RG14 RW14 BB14 hb hj' hc' hh
  go_wp2_with fail
  refine (laws_eqEventS.calls k5 _ _ _ _ _ _ _ _ hh'.2.2 hh'.2.1 hw'.2.2 hw'.2.1 EQ.out).mono ?_
  rintro e w16 ⟨rfl, hb⟩
  have RG16 := Aside0.mk (Kd.R_below RG15.out hb)
  have BB16 := Aside0.mk (below_then BB15.out BB15.out.size hb)
  clear RG15 RW15 BB15 hb hh' hw'
  have hg' := Kd.R_reads' RG16.out
  have HE := laws_heldEventS.calls k10 Ag cg g2 1 m w16 hg'.2.2 (by have := hg'.2.1; have := hg'.1; omega) HH.out
  rw [← eg.out] at HE
  have HE' := Aside0.mk HE
  clear HE hg'
  go_wp2_with fail
  refine HE'.out.mono ?_
  rintro e w17 ⟨rfl, hb⟩
  have BB17 := Aside0.mk (below_then BB16.out BB16.out.size hb)
  clear RG16 BB16 hb HE'
  go_wp2_with fail
  go_ret
  exact ⟨rfl, below_then B0.out B0.out.size BB17.out⟩
def AllOk (ks : Nat) (l0 : List S76) (l1 : List S84) : Prop :=
  ∃ t, laws_szOffice.f ks l0 l1 1048576 = some t ∧ (t < 0 ∨ ¬ t < 0 ∧ ∃ (kt k3 k4 k5 k6 k7 k8 k9 k10 : Nat) (j j2 g g2 : List S47) (c c2 : List S45) (q1 q2 m : Int),
    laws_toOffice.f kt l0 l1 = some (j, c) ∧ spec_AllEvents.f k3 j c = some g ∧ impl_AllEvents.f k4 j c = some g ∧ laws_eqEventS.f k5 g g = some true ∧ laws_eqOffice.f k6 j c j c = some true ∧ laws_markEventS.f k7 j 1 = some (q1, j2) ∧ markClerk.l0 k8 c q1 0 = some (q2, c2) ∧ ¬ q2 < 0 ∧
    laws_markEventS.f k9 g 1 = some (m, g2) ∧ laws_heldEventS.f k10 g2 1 = some m ∧ ¬ m < 0)
set_option maxHeartbeats 8000000 in
set_option maxRecDepth 100000 in
theorem row_calls {ks : Nat} {A0 : Option Addr} {c0 : Nat} {l0 : List S76} {A1 : Option Addr} {c1 : Nat} {l1 : List S84} {w : World}
    (hr0_0 : Kd.C k76 w A0 l0.length l0) (hc0_0 : l0.length ≤ c0) (hr0_1 : Kd.C k84 w A1 l1.length l1) (hc0_1 : l1.length ≤ c1) (h : AllOk ks l0 l1) :
    Calls Try.prog 3 #[.agg #[.slice A0 l0.length c0, .slice A1 l1.length c1]] w fun e w' => e = .returned (.bool true) ∧ Below w.heap.size w w' := by
  obtain ⟨t, hsz, h⟩ := h
  rcases h with ht | ⟨ht, kt, k3, k4, k5, k6, k7, k8, k9, k10, j, j2, g, g2, c, c2, q1, q2, m, h1, h2, h3, h4, h5, h6, h7, h8, h9, h10, h11⟩
  · have tb : decide (t < 0) = true := decide_eq_true ht
    have R0 := Aside0.mk hr0_0
    have R1 := Aside0.mk hr0_1
    have C0 := Aside0.mk hc0_0
    have C1 := Aside0.mk hc0_1
    have SZ := Aside0.mk hsz
    obtain ⟨WB, hWB⟩ : ∃ WB, WB = w.alloc (.cells #[.slice A0 l0.length c0, .slice A1 l1.length c1] 25) := ⟨_, rfl⟩
    have B0 : Aside0 (Below w.heap.size w WB) := ⟨by rw [hWB]; exact below_alloc (Below.refl w.heap.size w) _⟩
    have RB0 := Aside0.mk (Kd.C_below R0.out B0.out)
    have RB1 := Aside0.mk (Kd.C_below R1.out B0.out)
    have HWB := Aside0.mk hWB
    clear R0 R1 hWB hr0_0 hr0_1 hc0_0 hc0_1 hsz ht
    go_enter Try.func3, Try.ntmps3
    go_wp2_with fail
    rw [← HWB.out]
    refine (laws_szOffice.calls ks _ _ _ _ _ _ _ _ _ RB0.out C0.out RB1.out C1.out SZ.out).mono ?_
    rintro e w1 ⟨rfl, hb1⟩
    have BB := Aside0.mk hb1
    clear hb1
    go_wp2_with fail
    go_ret
    exact ⟨rfl, below_then B0.out B0.out.size BB.out⟩
  · exact law_calls ks kt k3 k4 k5 k6 k7 k8 k9 k10 A0 c0 l0 A1 c1 l1 w hr0_0 hc0_0 hr0_1 hc0_1 t j j2 g g2 c c2 q1 q2 m hsz ht h1 h2 h3 h4 h5 h6 h7 h8 h9 h10 h11

end Go.Proofs.Ytgllggmaiapeoaa.PureFnExactAllEvents
