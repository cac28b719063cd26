/- Plain laws for FnExactReopenPeriod (what the printed functions compute). -/
import Derived.Test.YtjhjeghgeclglaaPFnExactReopenPeriodx
import Derived.Test.YtjhjeghgeclglaaEv
namespace Go.Proofs.Ytjhjeghgeclglaa.PureFnExactReopenPeriod
open Go.RowKit Go.Proofs.Ytjhjeghgeclglaa.PFnExactReopenPeriod Go.Proofs.YtjhjeghgeclglaaW.PrintWords Go.Proofs.YtjhjeghgeclglaaW.PrintLast Go.Proofs.YtjhjeghgeclglaaW.PrintMore Go.Proofs.YtjhjeghgeclglaaEv
set_option linter.unusedVariables false
def markDoc.l0 : Nat → List S66 → Int → Int → Option (Int × List S66)
  | 0, _, _, _ => none
  | k + 1, xs, c, i => if i < (xs.length : Int) then (if 0 ≤ i then ((laws_markEntryS.f k (rd_T66 xs i).f2 (wrap64 (wrap64 (c + 1) + 1))).bind fun q => markDoc.l0 k (xs.set i.toNat ⟨c, wrap64 (c + 1), q.2⟩) q.1 (wrap64 (i + 1))) else none) else some (c, xs)
theorem markDoc.step {oki ok : Nat → Prop} {w0 wr : World} {g cap n : Nat} {xs : List S66} {i : Int} {vq : Value} {f0 f1 c c' : Int} {q : List S51}
    (hH : Kd.H k66 66 wr w0.heap.size ok (.slice (some ⟨g, 0, none⟩) n cap) xs i oki [.int .i64 f0, .int .i64 f1, vq]) (hR : Kd.R k51 51 wr w0.heap.size oki vq q) (hoki : ∀ k, oki k → ok k ∧ k ≠ g) (h0 : 0 ≤ i) (h1 : i < n) :
    Kd.H k66 66 ((wr.setCell ⟨g, i.toNat * 3, none⟩ (.int .i64 c)).setCell ⟨g, i.toNat * 3 + 1, none⟩ (.int .i64 c')) w0.heap.size ok (.slice (some ⟨g, 0, none⟩) n cap) xs i oki [.int .i64 c, .int .i64 c', vq] ∧
      Kd.R k51 51 ((wr.setCell ⟨g, i.toNat * 3, none⟩ (.int .i64 c)).setCell ⟨g, i.toNat * 3 + 1, none⟩ (.int .i64 c')) w0.heap.size oki vq q := by
  obtain ⟨h3, h4⟩ := Kd.H_seg hH h0 h1 (seg := [.int .i64 c, .int .i64 c']) (j := 0) (show 0 + 2 ≤ 3 by decide) (by
    intro q hq
    simp only [List.mem_cons, List.not_mem_nil, or_false] at hq
    rcases hq with rfl | rfl <;> rfl)
  have hR2 : Kd.R k51 51 (wr.setCells g (i.toNat * 3 + 0) [.int .i64 c, .int .i64 c']) w0.heap.size oki vq q := Kd.R_grown hR h4 (fun k hk he => (hoki k hk).2 (by injection he))
  exact ⟨h3, hR2⟩
theorem markDoc.fin {oki ok : Nat → Prop} {w0 W2 w1 : World} {v : Value} {xs : List S66} {i : Int} {vq : Value} {c c' : Int} {q2 : List S51}
    (hH : Kd.H k66 66 W2 w0.heap.size ok v xs i oki [.int .i64 c, .int .i64 c', vq]) (hR : Kd.R k51 51 w1 w0.heap.size (fun k_ => (oki k_ ∨ W2.heap.size ≤ k_)) vq q2) (hK1 : Kept W2 w1 oki) (hok : ∀ k, W2.heap.size ≤ k → ok k) :
    Kd.S k66 66 w1 w0.heap.size ok v (xs.set i.toNat ⟨c, c', q2⟩) := by
  have h2 := Kd.H_kept (Kd.H_widen hH) hK1 (fun k hk hn hS => hn (.inl hS))
  exact Kd.H_back (x' := ⟨c, c', q2⟩) (okp := fun k_ => (oki k_ ∨ W2.heap.size ≤ k_)) h2 (k66_mkM _ _ _ (⟨c, c', q2⟩ : S66) hR) (fun k hk => hk.imp id (fun hk => ⟨hok k hk, hk⟩))
set_option maxHeartbeats 8000000 in
set_option maxRecDepth 100000 in
theorem markDoc.calls (k : Nat) (P : Nat → Prop) (v : Value) (l : List S66) (a1 r1 : Int) (r2 : List S66) (w0 w : World) (hB : Below w0.heap.size w0 w) (ho : Kd.S k66 66 w w0.heap.size P v l) (h : markDoc.l0 k l a1 0 = some (r1, r2)) :
    Calls Try.prog 19 #[v, .int .i64 a1] w fun e w' => e = .returned (.int .i64 r1) ∧ Kd.S k66 66 w' w0.heap.size (fun k_ => (P k_ ∨ w.heap.size ≤ k_)) v r2 ∧ Below w0.heap.size w0 w' ∧ Kept w w' P := by
  have HO := Aside0.mk (show Kd.S k66 66 w w0.heap.size (fun k_ => (P k_ ∨ w.heap.size ≤ k_)) v l from Kd.S_mono ho (fun k_ hk => (.inl hk)))
  have HK := Aside0.mk (Kept.refl w P)
  have HB := Aside0.mk hB
  have H' := Aside0.mk h
  clear hB ho h
  go_enter Try.func19, Try.ntmps19
  go_wp2
  go_loopg [1, 5] k (fun kq v1 v5 w' => ∃ (xs : List S66) (c i : Int), v1 = .int .i64 c ∧ v5 = .int .i64 i ∧ Aside0 (markDoc.l0 kq xs c i = some (r1, r2)) ∧ Aside0 (kq ≤ k) ∧ Aside0 (Kd.S k66 66 w' w0.heap.size (fun k_ => (P k_ ∨ w.heap.size ≤ k_)) v xs) ∧ Aside0 (Kept w w' P) ∧ Aside0 (Below w0.heap.size w0 w'))
  case atStart => exact ⟨l, a1, 0, rfl, rfl, H', ⟨Nat.le_refl _⟩, HO, HK, HB⟩
  case round =>
    clear H' HO HK HB
    obtain ⟨xs, c, i, rfl, rfl, HA, HK1, HO, HK, HB⟩ := hrel
    cases gk with
    | zero => exact absurd HA.out (by simp [markDoc.l0])
    | succ k1 =>
      have H := HA.out
      clear HA
      simp only [markDoc.l0] at H
      by_cases c3 : i < (xs.length : Int)
      · rw [if_pos c3] at H
        by_cases c4 : 0 ≤ i
        · rw [if_pos c4] at H
          obtain ⟨⟨q1, q2⟩, hq, H⟩ := Option.bind_eq_some_iff.mp H
          have HQ := Aside0.mk hq
          have H' := Aside0.mk H
          clear H hq
          obtain ⟨g, cap, ev, gb, gl, cl, HG⟩ := Kd.S_form HO.out (by omega)
          subst ev
          have GB := Aside0.mk gb
          have GP := Aside0.mk ((Kd.S_R HO.out).1 g rfl)
          have GL := Aside0.mk gl
          clear gb gl HG
          obtain ⟨oki, ce, hcl, hM, hcc, hfr, hoki, hH⟩ := Kd.S_elem HO.out z66 i c4 (by omega)
          obtain ⟨vq, rfl, hR⟩ := k66_openM hM
          obtain ⟨Aq, cq, evq⟩ := Kd.R_slice hR
          subst evq
          have HOKI := Aside0.mk hoki
          have HS := Aside0.mk (markDoc.step (c := c) (c' := wrap64 (c + 1)) hH hR hoki c4 (by simpa using c3))
          clear hR hH hoki hM hcl
          have c3b0 : decide (i < (xs.length : Int)) = true := decide_eq_true c3
          have c4b0 : decide (0 ≤ i) = true := decide_eq_true c4
          have hx0 : wr.cell? ⟨g, i.toNat * 3, none⟩ = some (.int .i64 (rd_T66 xs i).f0) := hcc 0 _ rfl
          have hx1 : wr.cell? ⟨g, i.toNat * 3 + 1, none⟩ = some (.int .i64 (rd_T66 xs i).f1) := hcc 1 _ rfl
          have hx2 : wr.cell? ⟨g, i.toNat * 3 + 2, none⟩ = some (.slice Aq (rd_T66 xs i).f2.length cq) := hcc 2 _ rfl
          have hf0 : wr.frozen? ⟨g, i.toNat * 3, none⟩ = false := hfr 0
          have hf1 : wr.frozen? ⟨g, i.toNat * 3 + 1, none⟩ = false := hfr 1
          have C3 := Aside0.mk c3
          have C4 := Aside0.mk c4
          clear hcc hfr
          replace c4 := eq_true c4
          replace c3 := eq_true c3
          go_wp2_with fail
          refine (laws_markEntryS.calls k1 oki _ _ _ _ _ w0 _ (below_set (below_set HB.out GB.out) GB.out) HS.out.2 HQ.out).mono ?_
          rintro e w1 ⟨rfl, hR1, hB1, hK1⟩
          have HT := Aside0.mk (markDoc.fin HS.out.1 hR1 hK1 (fun k hk => .inr (Nat.le_trans HK.out.1 (by simpa using hk))))
          have HKK := Aside0.mk (((HK.out.setCell GP.out _).setCell GP.out _).then_ hK1 (fun k hk => (HOKI.out k hk).1))
          have HBB := Aside0.mk hB1
          clear hR1 hB1 hK1
          go_wp2
          go_roundg k1
          case measure => have := HK1.out; omega
          case rel => exact ⟨_, _, _, rfl, rfl, H', ⟨by have := HK1.out; omega⟩, HT, HKK, HBB⟩
        · rw [if_neg c4] at H
          exact absurd H (by simp)
      · rw [if_neg c3] at H
        have c3b0 : decide (i < (xs.length : Int)) = false := decide_eq_false c3
        clear c3
        simp only [Option.some.injEq, Prod.mk.injEq] at H
        obtain ⟨rfl, rfl⟩ := H
        obtain ⟨Ao, co, eo⟩ := Kd.V_slice (Kd.S_V (base' := 0) HO.out)
        subst eo
        go_wp2
        go_ret
        exact ⟨rfl, HO.out, HB.out, HK.out⟩

end Go.Proofs.Ytjhjeghgeclglaa.PureFnExactReopenPeriod
