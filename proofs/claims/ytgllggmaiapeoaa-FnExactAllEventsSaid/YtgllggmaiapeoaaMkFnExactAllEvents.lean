/- Plain laws for FnExactAllEvents (what the printed functions compute). -/
import Derived.Test.YtgllggmaiapeoaaPFnExactAllEventsx
import Derived.Test.YtgllggmaiapeoaaEv
namespace Go.Proofs.Ytgllggmaiapeoaa.PureFnExactAllEvents
open Go.RowKit Go.Proofs.Ytgllggmaiapeoaa.PFnExactAllEvents Go.Proofs.YtgllggmaiapeoaaW.PrintWords Go.Proofs.YtgllggmaiapeoaaW.PrintLast Go.Proofs.YtgllggmaiapeoaaW.PrintMore Go.Proofs.YtgllggmaiapeoaaEv
set_option linter.unusedVariables false
def markClerk.l0 : Nat → List S45 → Int → Int → Option (Int × List S45)
  | 0, _, _, _ => none
  | k + 1, xs, c, i => if i < (xs.length : Int) then (if 0 ≤ i then ((laws_markEventS.f k (rd_T45 xs i).f0 c).bind fun q => markClerk.l0 k (xs.set i.toNat ⟨q.2, Int.tmod q.1 3 == 0, wrap64 (q.1 + 1)⟩) (wrap64 (wrap64 (q.1 + 1) + 1)) (wrap64 (i + 1))) else none) else some (c, xs)
theorem size_alloc_ (w : World) (o : Obj) : (w.alloc o).heap.size = w.heap.size + 1 := Array.size_push _
theorem frozen_kept {W W2 : World} {S : Nat → Prop} {a : Addr} {b : Bool} (h : W.frozen? a = b) (hk : Kept W W2 S) (hl : a.block < W.heap.size) (hn : ¬ S a.block) : W2.frozen? a = b := by
  have e := hk.2 a.block hl hn
  rw [← h]
  simp only [World.frozen?, e]
theorem markClerk.step {P oki : Nat → Prop} {w0 w wr w1 : World} {g cap n : Nat} {xs : List S45} {i : Int} {vq : Value} {f1 b : Bool} {f2 c' : Int} {q2 : List S47}
    (hH : Kd.H k45 45 wr w0.heap.size (fun k_ => (P k_ ∨ w.heap.size ≤ k_)) (.slice (some ⟨g, 0, none⟩) n cap) xs i oki [vq, .bool f1, .int .i64 f2]) (hoki : ∀ k, oki k → (P k ∨ w.heap.size ≤ k) ∧ k ≠ g) (h0 : 0 ≤ i) (h1 : i < n)
    (hR : Kd.R k47 47 w1 w0.heap.size (fun k_ => (oki k_ ∨ wr.heap.size ≤ k_)) vq q2) (hK1 : Kept wr w1 oki) (hgl : g < wr.heap.size) (hgp : P g ∨ w.heap.size ≤ g) (hgb : w0.heap.size ≤ g) (hK : Kept w wr P) (hB : Below w0.heap.size w0 w1) :
    Kd.S k45 45 ((w1.setCell ⟨g, i.toNat * 3 + 1, none⟩ (.bool b)).setCell ⟨g, i.toNat * 3 + 2, none⟩ (.int .i64 c')) w0.heap.size (fun k_ => (P k_ ∨ w.heap.size ≤ k_)) (.slice (some ⟨g, 0, none⟩) n cap) (xs.set i.toNat ⟨q2, b, c'⟩) ∧
      Kept w ((w1.setCell ⟨g, i.toNat * 3 + 1, none⟩ (.bool b)).setCell ⟨g, i.toNat * 3 + 2, none⟩ (.int .i64 c')) P ∧ Below w0.heap.size w0 ((w1.setCell ⟨g, i.toNat * 3 + 1, none⟩ (.bool b)).setCell ⟨g, i.toNat * 3 + 2, none⟩ (.int .i64 c')) := by
  have h2 := Kd.H_kept (Kd.H_widen hH) hK1 (fun k hk hn hS => hn (.inl hS))
  have hne : ∀ k, (oki k ∨ wr.heap.size ≤ k) → k ≠ g := fun k hk he => by
    rcases hk with hk | hk
    · exact (hoki k hk).2 he
    · omega
  obtain ⟨h3, h4⟩ := Kd.H_seg h2 h0 h1 (seg := [.bool b, .int .i64 c']) (j := 1) (show 1 + 2 ≤ 3 by decide) (by
    intro q hq
    simp only [List.mem_cons, List.not_mem_nil, or_false] at hq
    rcases hq with rfl | rfl <;> rfl)
  have hR2 : Kd.R k47 47 (w1.setCells g (i.toNat * 3 + 1) [.bool b, .int .i64 c']) w0.heap.size (fun k_ => (oki k_ ∨ wr.heap.size ≤ k_)) vq q2 := Kd.R_grown hR h4 (fun k hk he => hne k hk (by injection he))
  refine ⟨Kd.H_back (x' := ⟨q2, b, c'⟩) (okp := fun k_ => (oki k_ ∨ wr.heap.size ≤ k_)) h3 (k45_mkM _ _ _ (⟨q2, b, c'⟩ : S45) hR2) (fun k hk => hk.imp id (fun hk => ⟨.inr (Nat.le_trans hK.1 hk), hk⟩)), ?_, below_set (below_set hB hgb) hgb⟩
  exact ((hK.then_ hK1 (fun k hk => (hoki k hk).1)).setCell hgp _).setCell hgp _
set_option maxHeartbeats 8000000 in
set_option maxRecDepth 100000 in
theorem markClerk.calls (k : Nat) (P : Nat → Prop) (v : Value) (l : List S45) (a1 r1 : Int) (r2 : List S45) (w0 w : World) (hB : Below w0.heap.size w0 w) (ho : Kd.S k45 45 w w0.heap.size P v l) (h : markClerk.l0 k l a1 0 = some (r1, r2)) :
    Calls Try.prog 42 #[v, .int .i64 a1] w fun e w' => e = .returned (.int .i64 r1) ∧ Kd.S k45 45 w' w0.heap.size (fun k_ => (P k_ ∨ w.heap.size ≤ k_)) v r2 ∧ Below w0.heap.size w0 w' ∧ Kept w w' P := by
  have HO := Aside0.mk (show Kd.S k45 45 w w0.heap.size (fun k_ => (P k_ ∨ w.heap.size ≤ k_)) v l from Kd.S_mono ho (fun k_ hk => (.inl hk)))
  have HK := Aside0.mk (Kept.refl w P)
  have HW0 := Aside0.mk hB.size
  have HB := Aside0.mk hB
  have H' := Aside0.mk h
  clear hB ho h
  go_enter Try.func42, Try.ntmps42
  go_wp2
  go_loopg [1, 5] k (fun kq v1 v5 w' => ∃ (xs : List S45) (c i : Int), v1 = .int .i64 c ∧ v5 = .int .i64 i ∧ Aside0 (markClerk.l0 kq xs c i = some (r1, r2)) ∧ Aside0 (kq ≤ k) ∧ Aside0 (Kd.S k45 45 w' w0.heap.size (fun k_ => (P k_ ∨ w.heap.size ≤ k_)) v xs) ∧ Aside0 (Kept w w' P) ∧ Aside0 (Below w0.heap.size w0 w'))
  case atStart => exact ⟨l, a1, 0, rfl, rfl, H', ⟨Nat.le_refl _⟩, HO, HK, HB⟩
  case round =>
    clear H' HO HK HB
    obtain ⟨xs, c, i, rfl, rfl, HA, HK1, HO, HK, HB⟩ := hrel
    cases gk with
    | zero => exact absurd HA.out (by simp [markClerk.l0])
    | succ k1 =>
      have H := HA.out
      clear HA
      simp only [markClerk.l0] at H
      by_cases c3 : i < (xs.length : Int)
      · rw [if_pos c3] at H
        by_cases c4 : 0 ≤ i
        · rw [if_pos c4] at H
          obtain ⟨⟨q1, q2⟩, hq, H⟩ := Option.bind_eq_some_iff.mp H
          have HQ := Aside0.mk hq
          have H' := Aside0.mk H
          clear H hq
          obtain ⟨g, cap, ev, gb, gl, cl, HG⟩ := Kd.S_form HO.out (by omega)
          subst ev
          have GB := Aside0.mk gb
          have GP := Aside0.mk ((Kd.S_R HO.out).1 g rfl)
          have GL := Aside0.mk gl
          clear gb gl HG
          obtain ⟨oki, ce, hcl, hM, hcc, hfr, hoki, hH⟩ := Kd.S_elem HO.out z45 i c4 (by omega)
          obtain ⟨vq, rfl, hR⟩ := k45_openM hM
          have HR := Aside0.mk hR
          have HH := Aside0.mk hH
          have HOKI := Aside0.mk hoki
          obtain ⟨Aq, cq, evq⟩ := Kd.R_slice hR
          subst evq
          clear hR hH hoki hM hcl
          have c3b0 : decide (i < (xs.length : Int)) = true := decide_eq_true c3
          have c4b0 : decide (0 ≤ i) = true := decide_eq_true c4
          have hx0 : wr.cell? ⟨g, i.toNat * 3, none⟩ = some (.slice Aq (rd_T45 xs i).f0.length cq) := hcc 0 _ rfl
          have C3 := Aside0.mk c3
          have C4 := Aside0.mk c4
          have HCC := Aside0.mk hcc
          have HFR := Aside0.mk hfr
          clear hcc hfr
          replace c4 := eq_true c4
          replace c3 := eq_true c3
          go_wp2_with fail
          refine (laws_markEventS.calls k1 oki _ _ _ _ _ w0 wr HB.out HR.out HQ.out).mono ?_
          rintro e w1 ⟨rfl, hR1, hB1, hK1⟩
          have hng : ¬ oki g := fun hk => (HOKI.out g hk).2 rfl
          have hgl : g < wr.heap.size := GL.out
          have hx1 : w1.cell? ⟨g, i.toNat * 3 + 1, none⟩ = some (.bool (rd_T45 xs i).f1) := cell_kept (HCC.out 1 _ rfl) hK1 hng
          have hx2 : w1.cell? ⟨g, i.toNat * 3 + 2, none⟩ = some (.int .i64 (rd_T45 xs i).f2) := cell_kept (HCC.out 2 _ rfl) hK1 hng
          have hf1 : w1.frozen? ⟨g, i.toNat * 3 + 1, none⟩ = false := frozen_kept (HFR.out 1) hK1 hgl hng
          have hf2 : w1.frozen? ⟨g, i.toNat * 3 + 2, none⟩ = false := frozen_kept (HFR.out 2) hK1 hgl hng
          have HS := Aside0.mk (markClerk.step (b := Int.tmod q1 3 == 0) (c' := wrap64 (q1 + 1)) HH.out HOKI.out C4.out C3.out hR1 hK1 hgl GP.out GB.out HK.out hB1)
          clear hR1 hB1 hK1 hng hgl
          go_wp2
          go_roundg k1
          case measure => have := HK1.out; omega
          case rel => exact ⟨_, _, _, rfl, rfl, H', ⟨by have := HK1.out; omega⟩, ⟨HS.out.1⟩, ⟨HS.out.2.1⟩, ⟨HS.out.2.2⟩⟩
        · rw [if_neg c4] at H
          exact absurd H (by simp)
      · rw [if_neg c3] at H
        have c3b0 : decide (i < (xs.length : Int)) = false := decide_eq_false c3
        clear c3
        simp only [Option.some.injEq, Prod.mk.injEq] at H
        obtain ⟨rfl, rfl⟩ := H
        obtain ⟨Ao, co, eo⟩ := Kd.V_slice (Kd.S_V (base' := 0) HO.out)
        subst eo
        go_wp2
        go_ret
        exact ⟨rfl, HO.out, HB.out, HK.out⟩

set_option maxHeartbeats 8000000 in
set_option maxRecDepth 100000 in
theorem markOffice.calls (k1 k2 : Nat) (P0 P1 : Nat → Prop) (v0 v1 : Value) (j j2 : List S47) (c c2 : List S45) (a1 q r1 : Int) (w0 w : World) (hB : Below w0.heap.size w0 w) (h0 : Kd.R k47 47 w w0.heap.size P0 v0 j) (h1 : Kd.S k45 45 w w0.heap.size P1 v1 c)
    (hd : ∀ k, P1 k → ¬ P0 k) (hm1 : laws_markEventS.f k1 j a1 = some (q, j2)) (hm2 : markClerk.l0 k2 c q 0 = some (r1, c2)) :
    Calls Try.prog 16 #[.agg #[v0, v1], .int .i64 a1] w fun e w' => e = .returned (.int .i64 r1) ∧ Kd.R k47 47 w' w0.heap.size (fun k_ => (P0 k_ ∨ w.heap.size ≤ k_)) v0 j2 ∧ Kd.S k45 45 w' w0.heap.size (fun k_ => (P1 k_ ∨ w.heap.size ≤ k_)) v1 c2 ∧ Below w0.heap.size w0 w' ∧ Kept w w' (fun k_ => P0 k_ ∨ P1 k_) := by
  obtain ⟨A0, c0, e0⟩ := Kd.R_slice h0
  obtain ⟨A1, c1, e1⟩ := Kd.S_slice h1
  subst e0 e1
  have W0 := Aside0.mk hB
  have H0 := Aside0.mk h0
  have H1 := Aside0.mk h1
  have M1 := Aside0.mk hm1
  have M2 := Aside0.mk hm2
  have HD := Aside0.mk hd
  clear hB h0 h1 hm1 hm2 hd
  go_enter Try.func16, Try.ntmps16
  go_wp2_with fail
  have hb0 := Kd.R_mono (ok' := fun k => P0 k ∧ k < w.heap.size) (Kd.R_bound H0.out) (fun k hk => ⟨hk.1, hk.2.2.1⟩)
  have hb1 := Kd.S_mono (ok' := fun k => P1 k ∧ k < w.heap.size) (Kd.S_bound H1.out) (fun k hk => ⟨hk.1, hk.2.2.1⟩)
  refine (laws_markEventS.calls k1 (fun k => P0 k ∧ k < w.heap.size) _ _ _ _ _ w0 _ ?b1 ?b2 M1.out).mono ?_
  case b1 => exact below_alloc W0.out _
  case b2 => exact Kd.R_alloc hb0 _
  rintro e w1 ⟨rfl, hR1, hBB, hK1⟩
  have hx0 : (w.alloc (.cells #[.slice A0 j.length c0, .slice A1 c.length c1] 31)).cell? ⟨w.heap.size, 1, none⟩ = some (.slice A1 c.length c1) := World.cell?_alloc_at _ _ _ _ rfl
  have hx1 : w1.cell? ⟨w.heap.size, 1, none⟩ = some (.slice A1 c.length c1) := cell_kept hx0 hK1 (fun h => Nat.lt_irrefl _ h.2)
  have hsz : w.heap.size + 1 ≤ w1.heap.size := by have := hK1.1; rwa [size_alloc_] at this
  have K1 := Aside0.mk (show Kept w w1 (fun k_ => P0 k_ ∨ P1 k_) from ((Kept.refl w (fun k_ => P0 k_ ∨ P1 k_)).alloc _).then_ hK1 (fun k hk => .inl (.inl hk.1)))
  have R1 := Aside0.mk hR1
  have hS1 : Kd.S k45 45 w1 w0.heap.size (fun k => P1 k ∧ k < w.heap.size) (.slice A1 c.length c1) c := Kd.S_kept (Kd.S_alloc hb1 _) hK1 (fun k hk h2 => HD.out k hk.1 h2.1)
  have S1 := Aside0.mk hS1
  have B1 := Aside0.mk hBB
  have SZ := Aside0.mk hsz
  clear hb0 hb1 hx0 hR1 hBB hK1 hS1 hsz
  go_wp2_with fail
  refine (markClerk.calls k2 (fun k => P1 k ∧ k < w.heap.size) _ _ _ _ _ w0 _ B1.out S1.out M2.out).mono ?_
  rintro e w2 ⟨rfl, hS2, hB2, hK2⟩
  have R2 := Aside0.mk (Kd.R_kept (Kd.R_bound R1.out) hK2 (fun k hk h2 => by
    rcases hk.1 with h3 | h3
    · exact HD.out k h2.1 h3.1
    · have := h2.2
      rw [size_alloc_] at h3
      omega))
  have S2 := Aside0.mk hS2
  have B2 := Aside0.mk hB2
  have K2 := Aside0.mk (K1.out.then_ hK2 (fun k hk => .inl (.inr hk.1)))
  clear hS2 hB2 hK2
  go_wp2
  go_ret
  refine ⟨rfl, Kd.R_mono R2.out (fun k hk => ?_), Kd.S_mono S2.out (fun k hk => ?_), B2.out, K2.out⟩
  · rcases hk.1 with h | h
    · exact .inl h.1
    · exact .inr (by rw [size_alloc_] at h
                     omega)
  · rcases hk with h | h
    · exact .inl h.1
    · exact .inr (by have := SZ.out; omega)

end Go.Proofs.Ytgllggmaiapeoaa.PureFnExactAllEvents
