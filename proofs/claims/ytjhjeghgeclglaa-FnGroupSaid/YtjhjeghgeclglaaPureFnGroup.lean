/- Plain laws for FnGroup (what the printed functions compute). -/
import Derived.Test.YtjhjeghgeclglaaPFnGroupx6
import Derived.Test.YtjhjeghgeclglaaEv
namespace Go.Proofs.Ytjhjeghgeclglaa.PureFnGroup
open Go.RowKit Go.Proofs.Ytjhjeghgeclglaa.PFnGroup Go.Proofs.YtjhjeghgeclglaaW.PrintWords Go.Proofs.YtjhjeghgeclglaaW.PrintLast Go.Proofs.YtjhjeghgeclglaaW.PrintMore Go.Proofs.YtjhjeghgeclglaaEv
set_option linter.unusedVariables false
def inB (a b c : Int) : Bool := decide (a ≥ b) && decide (a ≤ c)
theorem inB_iff {a b c : Int} : inB a b c = true ↔ b ≤ a ∧ a ≤ c := by simp [inB]
theorem in_s (a b c : Int) : spec_l1In.f a b c = some (inB a b c) := by
  unfold spec_l1In.f inB
  by_cases h : a ≥ b <;> simp [h]
theorem in_i (a b c : Int) : impl_in.f a b c = some (inB a b c) := in_s a b c

theorem and255 (n : Int) : Go.bits .and .i64 n 255 = n % 256 := by
  have h255 : (BitVec.ofInt 64 255).toNat = 2 ^ 8 - 1 := by decide
  have key : (BitVec.ofInt 64 n &&& BitVec.ofInt 64 255).toNat = (n % ((2 ^ 64 : Nat) : Int)).toNat % 2 ^ 8 := by
    rw [BitVec.toNat_and, BitVec.toNat_ofInt, h255, Nat.and_two_pow_sub_one_eq_mod]
  show IntKind.i64.wrap ((BitVec.ofInt 64 n &&& BitVec.ofInt 64 255).toNat : Nat) = n % 256
  rw [key, IntKind.wrap_i64]
  omega
theorem byte_ok (l : List Int) (i h : Int) (hl : l.length ≤ 140737488351232) (h0 : 0 ≤ i) : ∃ v i' h', spec_l1Byte.f l i h = some (v, i', h') ∧ 0 ≤ i' ∧ 0 ≤ v ∧ v ≤ 255 := by
  unfold spec_l1Byte.f
  by_cases hlt : i < (l.length : Int)
  · rw [if_pos hlt, if_pos h0, and255]
    refine ⟨_, _, _, rfl, ?_, by omega, by omega⟩
    rw [wrap_inc h0 hlt (by omega)]
    omega
  · rw [if_neg hlt, and255]
    exact ⟨_, _, _, rfl, h0, by omega, by omega⟩
theorem below_ok (l : List Int) (i h n : Int) (hl : l.length ≤ 140737488351232) (h0 : 0 ≤ i) : ∃ v i' h', spec_l1Below.f l i h n = some (v, i', h') ∧ 0 ≤ i' ∧ 0 ≤ v ∧ (0 < n → v < n) := by
  unfold spec_l1Below.f
  by_cases h1 : n ≤ 0
  · rw [if_pos h1]
    exact ⟨_, _, _, rfl, h0, by omega, by omega⟩
  · rw [if_neg h1]
    by_cases h2 : n ≤ 256
    · rw [if_pos h2]
      obtain ⟨v, i1, h', e, g0, g1, g2⟩ := byte_ok l i h hl h0
      rw [e]
      simp only [Option.bind_some]
      rw [if_neg (by omega)]
      refine ⟨_, _, _, rfl, g0, Int.tmod_nonneg n g1, fun _ => Int.tmod_lt_of_pos v (by omega)⟩
    · rw [if_neg h2]
      obtain ⟨v1, i1, k1, e1, g1, p1, q1⟩ := byte_ok l i h hl h0
      rw [e1]
      simp only [Option.bind_some]
      obtain ⟨v2, i2, k2, e2, g2, p2, q2⟩ := byte_ok l i1 k1 hl g1
      rw [e2]
      simp only [Option.bind_some]
      obtain ⟨v3, i3, k3, e3, g3, p3, q3⟩ := byte_ok l i2 k2 hl g2
      rw [e3]
      simp only [Option.bind_some]
      obtain ⟨v4, i4, k4, e4, g4, p4, q4⟩ := byte_ok l i3 k3 hl g3
      rw [e4]
      simp only [Option.bind_some]
      rw [if_neg (by omega)]
      refine ⟨_, _, _, rfl, g4, Int.tmod_nonneg n ?_, fun _ => Int.tmod_lt_of_pos _ (by omega)⟩
      rw [wrap_in (i := v1 * 16777216) (by omega) (by omega), wrap_in (i := v2 * 65536) (by omega) (by omega), wrap_in (i := v3 * 256) (by omega) (by omega), wrap_in (i := v1 * 16777216 + v2 * 65536) (by omega) (by omega), wrap_in (i := v1 * 16777216 + v2 * 65536 + v3 * 256) (by omega) (by omega), wrap_in (by omega) (by omega)]
      omega
theorem new_ok (l : List Int) (hl : l.length ≤ 140737488351232) : ∃ h, Ev (fun k => spec_l1New.f k l) (l, 0, h) := by
  have key : ∀ (d : Nat) (x i : Int), 0 ≤ i → (l.length : Int) - i ≤ d → ∃ h, Ev (fun k => spec_l1New.l0 k l x i) (l, 0, h) := by
    intro d
    induction d with
    | zero =>
      intro x i h0 hd
      exact ⟨x, Ev.step (fun k => spec_l1New.l0.eq_2 l x i k) (neg (by omega) (Ev.now _))⟩
    | succ d ih =>
      intro x i h0 hd
      by_cases hlt : i < (l.length : Int)
      · by_cases h4 : i < 4000
        · obtain ⟨h, hh⟩ := ih (Go.bits .and .i64 (wrap64 ((wrap64 ((wrap64 (x * 131)) + (wrap64 (rd l i)))) + 7)) 1073741823) (i + 1) (by omega) (by omega)
          rw [← wrap_inc h0 hlt (by omega)] at hh
          exact ⟨h, Ev.step (fun k => spec_l1New.l0.eq_2 l x i k) (pos hlt (pos h4 (pos h0 hh)))⟩
        · exact ⟨x, Ev.step (fun k => spec_l1New.l0.eq_2 l x i k) (pos hlt (neg h4 (Ev.now _)))⟩
      · exact ⟨x, Ev.step (fun k => spec_l1New.l0.eq_2 l x i k) (neg hlt (Ev.now _))⟩
  exact key l.length _ 0 (by omega) (by omega)
theorem once_ok (l : List Int) (i h n : Int) (hl : l.length ≤ 140737488351232) (h0 : 0 ≤ i) : ∃ v i' h', spec_l1Once.f l i h n = some (v, i', h') ∧ 0 ≤ i' := by
  unfold spec_l1Once.f
  obtain ⟨v, i1, h1, e, g0, _⟩ := below_ok l i h n hl h0
  rw [e]
  exact ⟨_, _, _, rfl, g0⟩
theorem pickint_ok (l : List Int) (i h : Int) (xs : List Int) (hx : 0 < xs.length) (hl : l.length ≤ 140737488351232) (h0 : 0 ≤ i) : ∃ v i' h', spec_l1PickInt.f l i h xs = some (v, i', h') ∧ 0 ≤ i' ∧ v ∈ xs := by
  unfold spec_l1PickInt.f
  obtain ⟨v, i1, h1, e, g0, g1, g2⟩ := below_ok l i h xs.length hl h0
  rw [e]
  simp only [Option.bind_some]
  rw [if_pos g1, if_pos (g2 (by omega))]
  exact ⟨_, _, _, rfl, g0, getD_mem xs 0 _ (by have := g2 (by omega); omega)⟩
theorem odd_ok (l : List Int) (i h : Int) (hl : l.length ≤ 140737488351232) (h0 : 0 ≤ i) : ∃ v i' h', spec_l1Odd.f l i h = some (v, i', h') ∧ 0 ≤ i' ∧ -9223372036854775808 ≤ v ∧ v ≤ 9223372036854775807 := by
  unfold spec_l1Odd.f
  obtain ⟨v, i1, h1, e, g0, g1⟩ := pickint_ok l i h [0, 1, (-1), 2, 1000000, 1000001, (-1000001), 1000000000, 1000000001, 9223372036854775807, (-9223372036854775808)] (by simp) hl h0
  rw [e]
  refine ⟨_, _, _, rfl, g0, ?_⟩
  simp only [List.mem_cons, List.not_mem_nil, or_false] at g1
  omega

open Go.Proofs.Ytjhjeghgeclglaa.InsFnGroup

def dealB (n : Int) (x : S81) : Bool := inB x.f0 0 (n - 1) && (inB x.f1 0 (n - 1) && (decide (x.f0 ≠ x.f1) && (inB x.f2 0 100000 && inB x.f3 0 x.f2)))
def dealsB (l : List S81) (n : Int) : Bool := inB n 0 6 && (l.all (dealB n) && decide (l.length ≤ 20))
theorem deals_iff {l : List S81} {n : Int} (h : dealsB l n = true) : (0 ≤ n ∧ n ≤ 6) ∧ l.length ≤ 20 ∧ ∀ x ∈ l, 0 ≤ x.f0 ∧ x.f0 ≤ n - 1 ∧ 0 ≤ x.f1 ∧ x.f1 ≤ n - 1 ∧ x.f0 ≠ x.f1 ∧ 0 ≤ x.f2 ∧ x.f2 ≤ 100000 ∧ 0 ≤ x.f3 ∧ x.f3 ≤ x.f2 := by
  unfold dealsB at h
  simp only [Bool.and_eq_true, inB_iff, decide_eq_true_eq, List.all_eq_true] at h
  refine ⟨h.1, h.2.2, fun x hx => ?_⟩
  have := h.2.1 x hx
  unfold dealB at this
  simp only [Bool.and_eq_true, inB_iff, decide_eq_true_eq] at this
  exact ⟨this.1.1, this.1.2, this.2.1.1, this.2.1.2, this.2.2.1, this.2.2.2.1.1, this.2.2.2.1.2, this.2.2.2.2.1, this.2.2.2.2.2⟩
theorem deals_s (l : List S81) (hl : l.length ≤ 1048576) (n : Int) : Ev (fun k => spec_AreDealings.f k l n) (dealsB l n) := by
  unfold dealsB
  refine known (in_s _ _ _) (ite_ (fun hn => ?_) (fun hn => cong (Ev.now _) (by rw [Bool.not_eq_true] at hn; rw [hn]; rfl)))
  have hn2 := inB_iff.1 hn
  have hw : wrap64 (n - 1) = n - 1 := wrap_in (by omega) (by omega)
  have key : ∀ (d : Nat) (i : Int), 0 ≤ i → (l.length : Int) - i = d → Ev (fun k => spec_AreDealings.l0 k l n i) ((l.drop i.toNat).all (dealB n) && decide (l.length ≤ 20)) := by
    intro d
    induction d with
    | zero =>
      intro i h0 hd
      refine Ev.step (fun k => spec_AreDealings.l0.eq_2 l n i k) (neg (by omega) (cong (Ev.now _) ?_))
      rw [List.drop_of_length_le (by omega)]
      simp only [List.all_nil, Bool.true_and]
      exact decide_eq_decide.2 (by omega)
    | succ d ih =>
      intro i h0 hd
      have hlt : i < (l.length : Int) := by omega
      have h := ih (i + 1) (by omega) (by omega)
      rw [show (i + 1).toNat = i.toNat + 1 by omega] at h
      rw [← wrap_inc h0 hlt (by omega)] at h
      have e : l.drop i.toNat = rd_T81 l i :: l.drop (i.toNat + 1) := drop_at l z81 i.toNat (by omega)
      rw [e, List.all_cons]
      unfold dealB
      refine Ev.step (fun k => spec_AreDealings.l0.eq_2 l n i k) (pos hlt (pos h0 ?_))
      rw [hw]
      refine known (in_s _ _ _) (ite_ (fun h1 => known (in_s _ _ _) (ite_ (fun h2 => ite_ (fun h3 => cong (Ev.now _) ?_) (fun h3 => known (in_s _ _ _) (ite_ (fun h4 => known (in_s _ _ _) (ite_ (fun h5 => cong h ?_) (fun h5 => cong (Ev.now _) ?_))) (fun h4 => cong (Ev.now _) ?_)))) (fun h2 => cong (Ev.now _) ?_))) (fun h1 => cong (Ev.now _) ?_))
      · simp [h3]
      · rw [h1, h2, decide_eq_true h3, h4, h5]
        simp only [Bool.true_and]
        rfl
      · rw [Bool.not_eq_true] at h5; rw [h5]; simp
      · rw [Bool.not_eq_true] at h4; rw [h4]; simp
      · rw [Bool.not_eq_true] at h2; rw [h2]; simp
      · rw [Bool.not_eq_true] at h1; rw [h1]; simp
  exact cong (key l.length 0 (by omega) (by omega)) (by rw [hn]; simp)
theorem deals_i (l : List S81) (hl : l.length ≤ 1048576) (n : Int) : Ev (fun k => impl_AreDealings.f k l n) (dealsB l n) := by
  unfold dealsB
  refine known (in_i _ _ _) (ite_ (fun hn => ?_) (fun hn => Ev.step (fun k => impl_AreDealings.j0.eq_2 l n true k) (pos rfl (cong (Ev.now _) (by rw [Bool.not_eq_true] at hn; rw [hn]; rfl)))))
  have hn2 := inB_iff.1 hn
  have hw : wrap64 (n - 1) = n - 1 := wrap_in (by omega) (by omega)
  by_cases hc : l.length ≤ 20
  · have key : ∀ (d : Nat) (i : Int), 0 ≤ i → (l.length : Int) - i = d → Ev (fun k => impl_AreDealings.l0 k n l (l.length : Int) i) ((l.drop i.toNat).all (dealB n)) := by
      intro d
      induction d with
      | zero =>
        intro i h0 hd
        refine Ev.step (fun k => impl_AreDealings.l0.eq_2 n l (l.length : Int) i k) (neg (by omega) (cong (Ev.now _) ?_))
        rw [List.drop_of_length_le (by omega)]
        rfl
      | succ d ih =>
        intro i h0 hd
        have hlt : i < (l.length : Int) := by omega
        have h := ih (i + 1) (by omega) (by omega)
        rw [show (i + 1).toNat = i.toNat + 1 by omega] at h
        rw [← wrap_inc h0 hlt (by omega)] at h
        have e : l.drop i.toNat = rd_T81 l i :: l.drop (i.toNat + 1) := drop_at l z81 i.toNat (by omega)
        rw [e, List.all_cons]
        unfold dealB
        refine Ev.step (fun k => impl_AreDealings.l0.eq_2 n l (l.length : Int) i k) (pos hlt (pos h0 (pos hlt ?_)))
        rw [hw]
        refine ite_ (fun h3 => cong (Ev.now _) ?_) (fun h3 => known (in_i _ _ _) (ite_ (fun h1 => known (in_i _ _ _) (ite_ (fun h2 => known (in_i _ _ _) (ite_ (fun h4 => known (in_i _ _ _) (ite_ (fun h5 => cong h ?_) (fun h5 => cong (Ev.now _) ?_))) (fun h4 => cong (Ev.now _) ?_))) (fun h2 => cong (Ev.now _) ?_))) (fun h1 => cong (Ev.now _) ?_)))
        · simp [h3]
        · rw [h1, h2, decide_eq_true h3, h4, h5]
          simp only [Bool.true_and]
          rfl
        · rw [Bool.not_eq_true] at h5; rw [h5]; simp
        · rw [Bool.not_eq_true] at h4; rw [h4]; simp
        · rw [Bool.not_eq_true] at h2; rw [h2]; simp
        · rw [Bool.not_eq_true] at h1; rw [h1]; simp
    refine Ev.step (fun k => impl_AreDealings.j0.eq_2 l n _ k) (neg (by simp; omega) (cong (key l.length 0 (by omega) (by omega)) ?_))
    rw [hn, decide_eq_true hc]
    simp
  · refine Ev.step (fun k => impl_AreDealings.j0.eq_2 l n _ k) (pos (decide_eq_true (by omega)) (cong (Ev.now _) ?_))
    rw [decide_eq_false hc]
    simp
def cSALES : ByteArray := ⟨#[83, 65, 76, 69, 83]⟩
def cCOST : ByteArray := ⟨#[67, 79, 83, 84]⟩
def cCLAIMS : ByteArray := ⟨#[67, 76, 65, 73, 77, 83]⟩
def cDEBTS : ByteArray := ⟨#[68, 69, 66, 84, 83]⟩
/-- What a dealing gives to the elimination. -/
def elimE (d : S81) : List S51 := [⟨cSALES, d.f2⟩, ⟨cCOST, -d.f2⟩, ⟨cCLAIMS, -d.f3⟩, ⟨cDEBTS, d.f3⟩]
def elims (l : List S81) : List S51 := (l.map elimE).flatten
theorem elims_len (l : List S81) : (elims l).length = 4 * l.length := by
  induction l with
  | nil => rfl
  | cons x r ih =>
    have : elims (x :: r) = elimE x ++ elims r := rfl
    rw [this, List.length_append, ih, List.length_cons]
    have : (elimE x).length = 4 := rfl
    omega
theorem elims_snoc (l : List S81) (x : S81) : elims (l ++ [x]) = elims l ++ elimE x := by simp [elims]
def SmallE (x : S51) : Prop := x.f0.size ≤ 6 ∧ -100000 ≤ x.f1 ∧ x.f1 ≤ 100000
theorem elims_small {l : List S81} {n : Int} (h : dealsB l n = true) : ∀ x ∈ elims l, SmallE x := by
  intro x hx
  obtain ⟨m, hm, hx⟩ := List.mem_flatten.1 hx
  obtain ⟨d, hd, rfl⟩ := List.mem_map.1 hm
  obtain ⟨-, -, h2⟩ := deals_iff h
  have h3 := h2 d hd
  simp only [elimE, List.mem_cons, List.not_mem_nil, or_false] at hx
  rcases hx with rfl | rfl | rfl | rfl
  · exact ⟨(by decide : cSALES.size ≤ 6), by show -100000 ≤ d.f2; omega, by show d.f2 ≤ 100000; omega⟩
  · exact ⟨(by decide : cCOST.size ≤ 6), by show -100000 ≤ -d.f2; omega, by show -d.f2 ≤ 100000; omega⟩
  · exact ⟨(by decide : cCLAIMS.size ≤ 6), by show -100000 ≤ -d.f3; omega, by show -d.f3 ≤ 100000; omega⟩
  · exact ⟨(by decide : cDEBTS.size ≤ 6), by show -100000 ≤ d.f3; omega, by show d.f3 ≤ 100000; omega⟩
theorem tot_i (l : List S51) (hl : l.length ≤ 1000000) (h : ∀ x ∈ l, x.f0.size ≤ 1000000000 ∧ -9223372036854775808 ≤ x.f1 ∧ x.f1 ≤ 9223372036854775807) : Ev (fun k => impl_totals.f k l) (addAll [] l) := pos ⟨hl, h⟩ (Ev.now _)
def elimR (l : List S81) (n : Int) : List S51 := if dealsB l n = true then addAll [] (elims l) else []
theorem elim_i (l : List S81) (hl : l.length ≤ 1048576) (n : Int) : Ev (fun k => impl_EliminationOf.f k l n) (elimR l n) := by
  refine known rfl (Ev.bind (deals_i l hl n) ?_)
  unfold elimR
  by_cases h : dealsB l n = true
  · rw [if_pos h]
    refine pos h ?_
    obtain ⟨-, h20, h2⟩ := deals_iff h
    have key : ∀ (d : Nat) (i : Int), 0 ≤ i → (l.length : Int) - i = d → Ev (fun k => impl_EliminationOf.l0 k (elims (l.take i.toNat)) l (l.length : Int) i) (addAll [] (elims l)) := by
      intro d
      induction d with
      | zero =>
        intro i h0 hd
        rw [List.take_of_length_le (by omega)]
        refine Ev.step (fun k => impl_EliminationOf.l0.eq_2 (elims l) l (l.length : Int) i k) (neg (by omega) (Ev.bind (tot_i _ (by rw [elims_len]; omega) (fun x hx => ?_)) (Ev.now _)))
        have := elims_small h x hx
        exact ⟨by have := this.1; omega, by have := this.2.1; omega, by have := this.2.2; omega⟩
      | succ d ih =>
        intro i h0 hd
        have hlt : i < (l.length : Int) := by omega
        have hm : rd_T81 l i ∈ l := getD_mem l _ _ (by omega)
        have h3 := h2 _ hm
        have h := ih (i + 1) (by omega) (by omega)
        have et : l.take (i.toNat + 1) = l.take i.toNat ++ [rd_T81 l i] := by
          rw [List.take_succ_eq_append_getElem (by omega)]
          congr 1
          unfold rd_T81
          rw [List.getD_eq_getElem?_getD, List.getElem?_eq_getElem (by omega)]
          rfl
        rw [show (i + 1).toNat = i.toNat + 1 by omega, et, elims_snoc, ← wrap_inc h0 hlt (by omega)] at h
        have w1 : wrap64 (-((rd_T81 l i).f2)) = -((rd_T81 l i).f2) := wrap_in (by omega) (by omega)
        have w2 : wrap64 (-((rd_T81 l i).f3)) = -((rd_T81 l i).f3) := wrap_in (by omega) (by omega)
        refine Ev.step (fun k => impl_EliminationOf.l0.eq_2 _ l (l.length : Int) i k) (pos hlt (pos h0 (pos hlt (known rfl ?_))))
        rw [w1, w2]
        refine pos ?_ h
        rw [elims_len, List.length_take]
        show _ + 4 < _
        omega
    exact key l.length 0 (by omega) (by omega)
  · rw [if_neg h]
    exact neg h (Ev.now _)
theorem dealings_ok (l : List Int) (i h n : Int) (hl : l.length ≤ 140737488351232) (h0 : 0 ≤ i) : ∃ r i' h', Ev (fun k => spec_l40Dealings.f k l i h n) (r, i', h') ∧ r.length ≤ 6 := by
  have key : ∀ (d : Nat) (acc : List S81) (m i h : Int), m ≤ d → 0 ≤ i → acc.length + d ≤ 5 → ∃ r i' h', Ev (fun k => spec_l40Dealings.l0 k n acc m l i h) (r, i', h') ∧ r.length ≤ 6 := by
    have fin : ∀ (acc : List S81) (m i h : Int), 0 ≤ i → acc.length ≤ 5 → ∃ r i' h', Ev (fun k => spec_l40Dealings.j1 k n acc m false l i h) (r, i', h') ∧ r.length ≤ 6 := by
      intro acc m i h h0 ha
      obtain ⟨v, i1, h1, e1, p1⟩ := once_ok l i h 14 hl h0
      by_cases hv : v = true
      · obtain ⟨v2, i2, h2, e2, p2, -, -⟩ := below_ok l i1 h1 4 hl p1
        obtain ⟨v3, i3, h3, e3, p3, -, -⟩ := below_ok l i2 h2 4 hl p2
        obtain ⟨v4, i4, h4, e4, p4, -⟩ := odd_ok l i3 h3 hl p3
        exact ⟨_, _, _, Ev.step (fun k => spec_l40Dealings.j1.eq_2 _ _ _ _ _ _ _ k) (neg (by simp) (known e1 (pos hv (known e2 (known e3 (known e4 (pos (by omega) (Ev.now _)))))))), by rw [List.length_append, List.length_singleton]; omega⟩
      · exact ⟨_, _, _, Ev.step (fun k => spec_l40Dealings.j1.eq_2 _ _ _ _ _ _ _ k) (neg (by simp) (known e1 (neg hv (Ev.now _)))), by omega⟩
    intro d
    induction d with
    | zero =>
      intro acc m i h hd h0 ha
      obtain ⟨r, i', h', e, hr⟩ := fin acc m i h h0 (by omega)
      exact ⟨r, i', h', Ev.step (fun k => spec_l40Dealings.l0.eq_2 _ _ _ _ _ _ k) (neg (by omega) e), hr⟩
    | succ d ih =>
      intro acc m i h hd h0 ha
      by_cases hm : m > 0
      · by_cases hn : n > 1
        · obtain ⟨v1, i1, h1, e1, p1, q1, b1⟩ := below_ok l i h n hl h0
          obtain ⟨v2, i2, h2, e2, p2, q2, b2⟩ := below_ok l i1 h1 90 hl p1
          obtain ⟨v3, i3, h3, e3, p3, -, -⟩ := below_ok l i2 h2 (wrap64 (n - 1)) hl p2
          obtain ⟨v4, i4, h4, e4, p4, -, -⟩ := below_ok l i3 h3 (wrap64 (v2 + 1)) hl p3
          have hw : wrap64 (m - 1) = m - 1 := wrap_in (by omega) (by omega)
          obtain ⟨r, i', h', e, hr⟩ := ih (acc ++ [(⟨v1, Int.tmod (wrap64 ((wrap64 (v1 + 1)) + v3)) n, v2, v4⟩ : S81)]) (m - 1) i4 h4 (by omega) p4 (by rw [List.length_append, List.length_singleton]; omega)
          rw [← hw] at e
          exact ⟨r, i', h', Ev.step (fun k => spec_l40Dealings.l0.eq_2 _ _ _ _ _ _ k) (pos hm (Ev.step (fun k => spec_l40Dealings.j1.eq_2 _ _ _ _ _ _ _ k) (pos (decide_eq_true hn) (known e1 (known e2 (known e3 (neg (by omega) (known e4 (pos (by omega) e))))))))), hr⟩
        · obtain ⟨r, i', h', e, hr⟩ := fin acc m i h h0 (by omega)
          refine ⟨r, i', h', Ev.step (fun k => spec_l40Dealings.l0.eq_2 _ _ _ _ _ _ k) (pos hm ?_), hr⟩
          rw [decide_eq_false hn]
          exact e
      · obtain ⟨r, i', h', e, hr⟩ := fin acc m i h h0 (by omega)
        exact ⟨r, i', h', Ev.step (fun k => spec_l40Dealings.l0.eq_2 _ _ _ _ _ _ k) (neg hm e), hr⟩
  obtain ⟨v, i1, h1, e1, p1, q1, b1⟩ := below_ok l i h 5 hl h0
  have := b1 (by omega)
  obtain ⟨r, i', h', e, hr⟩ := key 5 [] v i1 h1 (by omega) p1 (by simp)
  exact ⟨r, i', h', known e1 e, hr⟩
theorem drawelim_ok (l : List Int) (hl : l.length ≤ 140737488351232) : ∃ r n, Ev (fun k => spec_DrawEliminationOf.f k l) (r, n) ∧ r.length ≤ 6 := by
  obtain ⟨h, e0⟩ := new_ok l hl
  obtain ⟨v, i1, h1, e1, p1, -, -⟩ := below_ok l 0 h 5 hl (by omega)
  obtain ⟨r, i', h', e, hr⟩ := dealings_ok l i1 h1 v hl p1
  exact ⟨r, v, Ev.bind (Ev.bind e0 (known e1 (Ev.bind e (Ev.now _)))) (Ev.now _), hr⟩
def cCASH : ByteArray := ⟨#[67, 65, 83, 72]⟩
def sellE (d : S81) : List S51 := [⟨cSALES, -d.f2⟩, ⟨cCLAIMS, d.f3⟩, ⟨cCASH, d.f2 - d.f3⟩]
def buyE (d : S81) : List S51 := [⟨cCOST, d.f2⟩, ⟨cDEBTS, -d.f3⟩, ⟨cCASH, d.f3 - d.f2⟩]
/-- What a dealing gives to a firm. -/
def firmE (i : Int) (d : S81) : List S51 := (if d.f0 = i then sellE d else []) ++ (if d.f1 = i then buyE d else [])
def firms (l : List S81) (i : Int) : List S51 := (l.map (firmE i)).flatten
theorem firmE_len (i : Int) (d : S81) : (firmE i d).length ≤ 6 := by
  unfold firmE
  by_cases h1 : d.f0 = i <;> by_cases h2 : d.f1 = i <;> simp [h1, h2, sellE, buyE]
theorem firms_len (l : List S81) (i : Int) : (firms l i).length ≤ 6 * l.length := by
  induction l with
  | nil => exact Nat.zero_le _
  | cons x r ih =>
    have e : firms (x :: r) i = firmE i x ++ firms r i := rfl
    rw [e, List.length_append, List.length_cons]
    have := firmE_len i x
    omega
theorem firms_snoc (l : List S81) (x : S81) (i : Int) : firms (l ++ [x]) i = firms l i ++ firmE i x := by simp [firms]
def FiveE (x : S51) : Prop := (x.f0 = cSALES ∨ x.f0 = cCOST ∨ x.f0 = cCLAIMS ∨ x.f0 = cDEBTS ∨ x.f0 = cCASH) ∧ -100000 ≤ x.f1 ∧ x.f1 ≤ 100000
theorem firms_five {l : List S81} {n : Int} (h : dealsB l n = true) (i : Int) : ∀ x ∈ firms l i, FiveE x := by
  intro x hx
  obtain ⟨m, hm, hx⟩ := List.mem_flatten.1 hx
  obtain ⟨d, hd, rfl⟩ := List.mem_map.1 hm
  obtain ⟨-, -, h2⟩ := deals_iff h
  have h3 := h2 d hd
  unfold firmE at hx
  rcases List.mem_append.1 hx with hx | hx
  · by_cases hs : d.f0 = i
    · rw [if_pos hs] at hx
      simp only [sellE, List.mem_cons, List.not_mem_nil, or_false] at hx
      rcases hx with rfl | rfl | rfl
      · exact ⟨.inl rfl, by show -100000 ≤ -d.f2; omega, by show -d.f2 ≤ 100000; omega⟩
      · exact ⟨.inr (.inr (.inl rfl)), by show -100000 ≤ d.f3; omega, by show d.f3 ≤ 100000; omega⟩
      · exact ⟨.inr (.inr (.inr (.inr rfl))), by show -100000 ≤ d.f2 - d.f3; omega, by show d.f2 - d.f3 ≤ 100000; omega⟩
    · rw [if_neg hs] at hx
      cases hx
  · by_cases hs : d.f1 = i
    · rw [if_pos hs] at hx
      simp only [buyE, List.mem_cons, List.not_mem_nil, or_false] at hx
      rcases hx with rfl | rfl | rfl
      · exact ⟨.inr (.inl rfl), by show -100000 ≤ d.f2; omega, by show d.f2 ≤ 100000; omega⟩
      · exact ⟨.inr (.inr (.inr (.inl rfl))), by show -100000 ≤ -d.f3; omega, by show -d.f3 ≤ 100000; omega⟩
      · exact ⟨.inr (.inr (.inr (.inr rfl))), by show -100000 ≤ d.f3 - d.f2; omega, by show d.f3 - d.f2 ≤ 100000; omega⟩
    · rw [if_neg hs] at hx
      cases hx
theorem elims_five {l : List S81} {n : Int} (h : dealsB l n = true) : ∀ x ∈ elims l, FiveE x := by
  intro x hx
  have hs := elims_small h x hx
  refine ⟨?_, hs.2⟩
  obtain ⟨m, hm, hx⟩ := List.mem_flatten.1 hx
  obtain ⟨d, hd, rfl⟩ := List.mem_map.1 hm
  simp only [elimE, List.mem_cons, List.not_mem_nil, or_false] at hx
  rcases hx with rfl | rfl | rfl | rfl
  · exact .inl rfl
  · exact .inr (.inl rfl)
  · exact .inr (.inr (.inl rfl))
  · exact .inr (.inr (.inr (.inl rfl)))
theorem five_size {x : S51} (h : FiveE x) : x.f0.size ≤ 1000000000 ∧ -9223372036854775808 ≤ x.f1 ∧ x.f1 ≤ 9223372036854775807 := by
  refine ⟨?_, by have := h.2.1; omega, by have := h.2.2; omega⟩
  rcases h.1 with e | e | e | e | e <;> rw [e] <;> decide
theorem firm_i (l : List S81) (n i : Int) (h : dealsB l n = true) : Ev (fun k => impl_FirmDealings.f k l n i) (addAll [] (firms l i)) := by
  obtain ⟨-, h20, h2⟩ := deals_iff h
  refine known rfl (Ev.bind (deals_i l (by omega) n) (pos h ?_))
  have key : ∀ (d : Nat) (j : Int), 0 ≤ j → (l.length : Int) - j = d → Ev (fun k => impl_FirmDealings.l0 k i (firms (l.take j.toNat) i) l (l.length : Int) j) (addAll [] (firms l i)) := by
    intro d
    induction d with
    | zero =>
      intro j h0 hd
      rw [List.take_of_length_le (by omega)]
      have := firms_len l i
      exact Ev.step (fun k => impl_FirmDealings.l0.eq_2 _ _ _ _ _ k) (neg (by omega) (Ev.bind (tot_i _ (by omega) (fun x hx => five_size (firms_five h i x hx))) (Ev.now _)))
    | succ d ih =>
      intro j h0 hd
      have hlt : j < (l.length : Int) := by omega
      have hm : rd_T81 l j ∈ l := getD_mem l _ _ (by omega)
      have h3 := h2 _ hm
      have hh := ih (j + 1) (by omega) (by omega)
      have et : l.take (j.toNat + 1) = l.take j.toNat ++ [rd_T81 l j] := by
        rw [List.take_succ_eq_append_getElem (by omega)]
        congr 1
        unfold rd_T81
        rw [List.getD_eq_getElem?_getD, List.getElem?_eq_getElem (by omega)]
        rfl
      rw [show (j + 1).toNat = j.toNat + 1 by omega, et, firms_snoc, ← wrap_inc h0 hlt (by omega)] at hh
      unfold firmE at hh
      have w1 : wrap64 (-((rd_T81 l j).f2)) = -((rd_T81 l j).f2) := wrap_in (by omega) (by omega)
      have w2 : wrap64 (-((rd_T81 l j).f3)) = -((rd_T81 l j).f3) := wrap_in (by omega) (by omega)
      have w3 : wrap64 ((rd_T81 l j).f2 - (rd_T81 l j).f3) = (rd_T81 l j).f2 - (rd_T81 l j).f3 := wrap_in (by omega) (by omega)
      have w4 : wrap64 ((rd_T81 l j).f3 - (rd_T81 l j).f2) = (rd_T81 l j).f3 - (rd_T81 l j).f2 := wrap_in (by omega) (by omega)
      have hlen : (firms (l.take j.toNat) i).length ≤ 120 := by
        have := firms_len (l.take j.toNat) i
        rw [List.length_take] at this
        omega
      refine Ev.step (fun k => impl_FirmDealings.l0.eq_2 _ _ _ _ _ k) (pos hlt (pos h0 (pos hlt ?_)))
      rw [w1, w2, w3, w4]
      refine ite_ (fun hs => ?_) (fun hs => ?_)
      · rw [if_pos hs] at hh
        refine known rfl (pos (by show _ + 3 < _; omega) (known rfl (ite_ (fun hb => known rfl (pos ?_ ?_)) (fun hb => ?_))))
        · simp only [List.length_append, List.length_cons, List.length_nil]
          omega
        · rw [if_pos hb, ← List.append_assoc] at hh
          exact hh
        · rw [if_neg hb, List.append_nil] at hh
          exact hh
      · rw [if_neg hs, List.nil_append] at hh
        refine ite_ (fun hb => known rfl (pos (by show _ + 3 < _; omega) ?_)) (fun hb => ?_)
        · rw [if_pos hb] at hh
          exact hh
        · rw [if_neg hb, List.append_nil] at hh
          exact hh
  exact key l.length 0 (by omega) (by omega)
theorem code_five (c : ByteArray) (h : c = cSALES ∨ c = cCOST ∨ c = cCLAIMS ∨ c = cDEBTS ∨ c = cCASH) : Ev (fun k => impl_IsCode.f k c) true := by
  rcases h with rfl | rfl | rfl | rfl | rfl
  · exact Ev.of (impl_IsCode.mono _) (k := 8) (by kernel_rfl)
  · exact Ev.of (impl_IsCode.mono _) (k := 8) (by kernel_rfl)
  · exact Ev.of (impl_IsCode.mono _) (k := 8) (by kernel_rfl)
  · exact Ev.of (impl_IsCode.mono _) (k := 8) (by kernel_rfl)
  · exact Ev.of (impl_IsCode.mono _) (k := 8) (by kernel_rfl)
/-- An entry of one of the five accounts, of a moderate amount. -/
def ModE (x : S51) : Prop := (x.f0 = cSALES ∨ x.f0 = cCOST ∨ x.f0 = cCLAIMS ∨ x.f0 = cDEBTS ∨ x.f0 = cCASH) ∧ -1000000000 ≤ x.f1 ∧ x.f1 ≤ 1000000000
theorem add_i (a b : List S51) (hl : a.length + b.length ≤ 1001) (h : ∀ x ∈ a ++ b, ModE x) : Ev (fun k => impl_AddEntries.f k a b) (addAll [] (a ++ b), true) := by
  have hw : wrap64 ((a.length : Int) + (b.length : Int)) = (a.length : Int) + (b.length : Int) := wrap_in (by omega) (by omega)
  refine neg (by rw [hw]; omega) (known rfl (pos (by show 0 + _ < _; omega) (known rfl (pos (by rw [List.nil_append]; omega) (known rfl ?_)))))
  rw [List.nil_append]
  have key : ∀ (d : Nat) (i : Int), 0 ≤ i → ((a ++ b).length : Int) - i = d → Ev (fun k => impl_AddEntries.l0 k (a ++ b) (a ++ b) ((a ++ b).length : Int) i) (addAll [] (a ++ b), true) := by
    intro d
    induction d with
    | zero =>
      intro i h0 hd
      refine Ev.step (fun k => impl_AddEntries.l0.eq_2 _ _ _ _ k) (neg (by omega) (Ev.bind (tot_i _ (by rw [List.length_append]; omega) (fun x hx => ?_)) (Ev.now _)))
      have h1 := h x hx
      refine ⟨?_, by have := h1.2.1; omega, by have := h1.2.2; omega⟩
      rcases h1.1 with e | e | e | e | e <;> rw [e] <;> decide
    | succ d ih =>
      intro i h0 hd
      have hlt : i < ((a ++ b).length : Int) := by omega
      have hm : rd_T51 (a ++ b) i ∈ a ++ b := getD_mem _ _ _ (by omega)
      have h1 := h _ hm
      have hh := ih (i + 1) (by omega) (by omega)
      rw [← wrap_inc h0 hlt (by rw [List.length_append]; omega)] at hh
      refine Ev.step (fun k => impl_AddEntries.l0.eq_2 _ _ _ _ k) (pos hlt (pos h0 (pos hlt (Ev.bind (code_five _ h1.1) (pos rfl (known (in_i _ _ _) (pos (inB_iff.2 ⟨by have := h1.2.1; omega, by have := h1.2.2; omega⟩) hh)))))))
  exact key (a ++ b).length 0 (by omega) (by omega)
theorem sumA_can : ∀ {l : List S51}, InsFnGroup.Can l → ∀ b, sumA b l = valE l b
  | [], _, _ => rfl
  | x :: r, h, b => by
    show (if x.f0.toList = b.toList then x.f1 else 0) + sumA b r = if x.f0.toList = b.toList then x.f1 else valE r b
    by_cases hb : x.f0.toList = b.toList
    · rw [if_pos hb, if_pos hb, sumA_can h.2.2 b, valE_none r b (fun y hy e => bl_ne (h.2.1 y hy) (hb.trans e.symm)), Int.add_zero]
    · rw [if_neg hb, if_neg hb, sumA_can h.2.2 b, Int.zero_add]
theorem rng_five {l : List S51} (h : ∀ x ∈ l, FiveE x) : ∀ x ∈ l, Rng x.f1 := fun x hx => (five_size (h x hx)).2
theorem sumA_bound (b : ByteArray) : ∀ (l : List S51), (∀ x ∈ l, FiveE x) → -(100000 * (l.length : Int)) ≤ sumA b l ∧ sumA b l ≤ 100000 * (l.length : Int)
  | [], _ => by simp [sumA]
  | x :: r, h => by
    have h1 := sumA_bound b r (fun y hy => h y (List.mem_cons_of_mem _ hy))
    have h2 := (h x List.mem_cons_self).2
    show -(100000 * ((r.length + 1 : Nat) : Int)) ≤ (if x.f0.toList = b.toList then x.f1 else 0) + sumA b r ∧ (if x.f0.toList = b.toList then x.f1 else 0) + sumA b r ≤ 100000 * ((r.length + 1 : Nat) : Int)
    by_cases hb : x.f0.toList = b.toList
    · rw [if_pos hb]; omega
    · rw [if_neg hb]; omega
theorem addAll_mem : ∀ (es t : List S51), ∀ y ∈ addAll t es, y ∈ t ∨ ∃ x ∈ es, y.f0 = x.f0
  | [], _, _, h => .inl h
  | x :: r, t, y, h => by
    rcases addAll_mem r (insE t x.f0 x.f1) y h with h1 | ⟨z, hz, e⟩
    · rcases insE_mem t x.f0 x.f1 y h1 with h2 | h2
      · exact .inl h2
      · exact .inr ⟨x, List.mem_cons_self, toList_inj h2⟩
    · exact .inr ⟨z, List.mem_cons_of_mem _ hz, e⟩
theorem valE_mem : ∀ {l : List S51}, InsFnGroup.Can l → ∀ y ∈ l, valE l y.f0 = y.f1
  | x :: r, h, y, hy => by
    show (if x.f0.toList = y.f0.toList then x.f1 else valE r y.f0) = y.f1
    rcases List.mem_cons.1 hy with rfl | hy
    · rw [if_pos rfl]
    · rw [if_neg (bl_ne (h.2.1 y hy))]
      exact valE_mem h.2.2 y hy
/-- What totals makes of entries of the five accounts is of the five accounts, and moderate. -/
theorem all_mod {es : List S51} (h : ∀ x ∈ es, FiveE x) (hl : es.length ≤ 1000) : ∀ y ∈ addAll [] es, ModE y := by
  intro y hy
  have hc := addAll_can es (t := []) trivial (rng_five h)
  have h1 := valE_mem hc y hy
  rw [addAll_val y.f0 es (t := []) trivial (rng_five h)] at h1
  have h2 := sumA_bound y.f0 es h
  have h3 : wrap64 (valE [] y.f0 + sumA y.f0 es) = sumA y.f0 es := by
    show wrap64 (0 + sumA y.f0 es) = _
    rw [Int.zero_add]
    exact wrap_in (by omega) (by omega)
  rw [h3] at h1
  rcases addAll_mem es [] y hy with h4 | ⟨x, hx, e⟩
  · cases h4
  · exact ⟨by rw [e]; exact (h x hx).1, by omega, by omega⟩
theorem five_mod {x : S51} (h : FiveE x) : ModE x := ⟨h.1, by have := h.2.1; omega, by have := h.2.2; omega⟩
/-- Totals of totals beside other entries. -/
theorem all_norm {es fs : List S51} (he : ∀ x ∈ es, FiveE x) (hf : ∀ x ∈ fs, FiveE x) (hl : es.length ≤ 1000) : addAll [] (addAll [] es ++ addAll [] fs) = addAll [] (es ++ fs) := by
  have hce := addAll_can es (t := []) trivial (rng_five he)
  have hcf := addAll_can fs (t := []) trivial (rng_five hf)
  have rngc : ∀ {l : List S51}, InsFnGroup.Can l → ∀ x ∈ l, Rng x.f1 := fun h x hx => valE_mem h x hx ▸ valE_rng h x.f0
  have hr1 : ∀ x ∈ addAll [] es ++ addAll [] fs, Rng x.f1 := fun x hx => (List.mem_append.1 hx).elim (rngc hce x) (rngc hcf x)
  have hr2 : ∀ x ∈ es ++ fs, Rng x.f1 := fun x hx => (List.mem_append.1 hx).elim (rng_five he x) (rng_five hf x)
  refine can_eq (addAll_can _ (t := []) trivial hr1) (addAll_can _ (t := []) trivial hr2) (fun b => ?_)
  rw [addAll_val b _ (t := []) trivial hr1, addAll_val b _ (t := []) trivial hr2, sumA_app, sumA_app, sumA_can hce, sumA_can hcf, addAll_val b es (t := []) trivial (rng_five he), addAll_val b fs (t := []) trivial (rng_five hf)]
  show wrap64 (0 + (wrap64 (0 + sumA b es) + wrap64 (0 + sumA b fs))) = wrap64 (0 + (sumA b es + sumA b fs))
  unfold wrap64
  omega
/-- All that the first firms have. -/
def upto (l : List S81) : Nat → List S51
  | 0 => []
  | i + 1 => upto l i ++ firms l (i : Int)
theorem upto_len (l : List S81) : ∀ i, (upto l i).length ≤ 6 * l.length * i
  | 0 => Nat.le_refl _
  | i + 1 => by
    have h1 := upto_len l i
    have h2 := firms_len l (i : Int)
    show (upto l i ++ firms l (i : Int)).length ≤ _
    rw [List.length_append, Nat.mul_succ]
    omega
theorem upto_five {l : List S81} {n : Int} (h : dealsB l n = true) : ∀ i, ∀ x ∈ upto l i, FiveE x
  | 0, _, hx => by cases hx
  | i + 1, x, hx => (List.mem_append.1 hx).elim (upto_five h i x) (firms_five h (i : Int) x)
theorem upto_nil (b : ByteArray) : ∀ i, sumA b (upto [] i) = 0
  | 0 => rfl
  | i + 1 => by
    show sumA b (upto [] i ++ firms [] (i : Int)) = 0
    rw [sumA_app, upto_nil b i]
    rfl
def one (b : ByteArray) (d : S81) (i : Nat) : Int := (if 0 ≤ d.f0 ∧ d.f0 < (i : Int) then sumA b (sellE d) else 0) + (if 0 ≤ d.f1 ∧ d.f1 < (i : Int) then sumA b (buyE d) else 0)
theorem upto_cons (b : ByteArray) (d : S81) (r : List S81) : ∀ i, sumA b (upto (d :: r) i) = one b d i + sumA b (upto r i)
  | 0 => by
    show (0 : Int) = one b d 0 + 0
    unfold one
    rw [if_neg (by omega), if_neg (by omega)]
    rfl
  | i + 1 => by
    have e : firms (d :: r) (i : Int) = firmE (i : Int) d ++ firms r (i : Int) := rfl
    show sumA b (upto (d :: r) i ++ firms (d :: r) (i : Int)) = one b d (i + 1) + sumA b (upto r i ++ firms r (i : Int))
    rw [sumA_app, sumA_app, upto_cons b d r i, e, sumA_app]
    have : one b d (i + 1) = one b d i + sumA b (firmE (i : Int) d) := by
      unfold one firmE
      rw [sumA_app]
      by_cases h1 : d.f0 = (i : Int) <;> by_cases h2 : d.f1 = (i : Int)
      · rw [if_pos h1, if_pos h2, if_pos (by omega), if_pos (by omega), if_neg (by omega), if_neg (by omega)]; omega
      · rw [if_pos h1, if_neg h2, if_pos (by omega), if_neg (show ¬ (0 ≤ d.f0 ∧ d.f0 < (i : Int)) by omega)]
        by_cases h3 : 0 ≤ d.f1 ∧ d.f1 < (i : Int)
        · rw [if_pos h3, if_pos (by omega)]; simp [sumA] <;> omega
        · rw [if_neg h3, if_neg (by omega)]; simp [sumA] <;> omega
      · rw [if_neg h1, if_pos h2, if_neg (show ¬ (0 ≤ d.f1 ∧ d.f1 < (i : Int)) by omega), if_pos (show 0 ≤ d.f1 ∧ d.f1 < ((i + 1 : Nat) : Int) by omega)]
        by_cases h3 : 0 ≤ d.f0 ∧ d.f0 < (i : Int)
        · rw [if_pos h3, if_pos (by omega)]; simp [sumA] <;> omega
        · rw [if_neg h3, if_neg (by omega)]; simp [sumA] <;> omega
      · rw [if_neg h1, if_neg h2]
        by_cases h3 : 0 ≤ d.f0 ∧ d.f0 < (i : Int) <;> by_cases h4 : 0 ≤ d.f1 ∧ d.f1 < (i : Int)
        · rw [if_pos h3, if_pos h4, if_pos (by omega), if_pos (by omega)]; simp [sumA] <;> omega
        · rw [if_pos h3, if_neg h4, if_pos (by omega), if_neg (by omega)]; simp [sumA] <;> omega
        · rw [if_neg h3, if_pos h4, if_neg (by omega), if_pos (by omega)]; simp [sumA] <;> omega
        · rw [if_neg h3, if_neg h4, if_neg (by omega), if_neg (by omega)]; simp [sumA] <;> omega
    rw [this]
    omega
theorem cancel (b : ByteArray) (d : S81) : sumA b (sellE d) + sumA b (buyE d) + sumA b (elimE d) = 0 := by
  unfold sellE buyE elimE
  simp only [sumA]
  by_cases h1 : cSALES.toList = b.toList <;> by_cases h2 : cCOST.toList = b.toList <;> by_cases h3 : cCLAIMS.toList = b.toList <;> by_cases h4 : cDEBTS.toList = b.toList <;> by_cases h5 : cCASH.toList = b.toList <;> simp only [h1, h2, h3, h4, h5, if_true, if_false] <;> omega
theorem all_zero (b : ByteArray) (n : Nat) : ∀ (l : List S81), (∀ x ∈ l, 0 ≤ x.f0 ∧ x.f0 ≤ (n : Int) - 1 ∧ 0 ≤ x.f1 ∧ x.f1 ≤ (n : Int) - 1) → sumA b (upto l n ++ elims l) = 0
  | [], _ => by
    rw [sumA_app, upto_nil]
    rfl
  | d :: r, h => by
    have ih := all_zero b n r (fun x hx => h x (List.mem_cons_of_mem _ hx))
    have hd := h d List.mem_cons_self
    have e : elims (d :: r) = elimE d ++ elims r := rfl
    have hc := cancel b d
    rw [sumA_app] at ih ⊢
    rw [upto_cons, e, sumA_app]
    have h1 : one b d n = sumA b (sellE d) + sumA b (buyE d) := by
      unfold one
      rw [if_pos (by omega), if_pos (by omega)]
    omega
/-- All amounts, added up. -/
def total : List S51 → Int
  | [] => 0
  | x :: r => x.f1 + total r
theorem total_app : ∀ (l m : List S51), total (l ++ m) = total l + total m
  | [], m => by
    show total m = 0 + total m
    omega
  | x :: r, m => by
    show x.f1 + total (r ++ m) = x.f1 + total r + total m
    rw [total_app r m]
    omega
theorem total_ins : ∀ (l : List S51) (a : ByteArray) (n : Int), wrap64 (total (insE l a n)) = wrap64 (total l + n)
  | [], a, n => by
    unfold insE
    split
    · rename_i h; rw [h]; rfl
    · show wrap64 (n + 0) = wrap64 (0 + n)
      rw [Int.add_zero, Int.zero_add]
  | x :: r, a, n => by
    rcases hb : Op.bytesLess x.f0.toList a.toList with _ | _
    · by_cases he : x.f0.toList = a.toList
      · rw [insE_eq1 hb he]
        by_cases hz : wrap64 (n + x.f1) = 0
        · rw [if_pos hz]
          show _ = wrap64 (x.f1 + total r + n)
          unfold wrap64 at hz ⊢
          omega
        · rw [if_neg hz]
          show wrap64 (wrap64 (n + x.f1) + total r) = wrap64 (x.f1 + total r + n)
          unfold wrap64
          omega
      · rw [insE_eq2 hb he]
        by_cases hz : n = 0
        · rw [if_pos hz, hz, Int.add_zero]
        · rw [if_neg hz]
          show wrap64 (n + (x.f1 + total r)) = wrap64 (x.f1 + total r + n)
          congr 1
          omega
    · have e : insE (x :: r) a n = x :: insE r a n := by
        rw [insE, if_pos hb]
      have ih := total_ins r a n
      rw [e]
      show wrap64 (x.f1 + total (insE r a n)) = wrap64 (x.f1 + total r + n)
      unfold wrap64 at ih ⊢
      omega
theorem total_all : ∀ (es t : List S51), wrap64 (total (addAll t es)) = wrap64 (total t + total es)
  | [], t => by
    show wrap64 (total t) = wrap64 (total t + 0)
    rw [Int.add_zero]
  | x :: r, t => by
    have h1 := total_all r (insE t x.f0 x.f1)
    have h2 := total_ins t x.f0 x.f1
    show wrap64 (total (addAll (insE t x.f0 x.f1) r)) = wrap64 (total t + (x.f1 + total r))
    unfold wrap64 at h1 h2 ⊢
    omega
theorem total_firms (i : Int) : ∀ (l : List S81), total (firms l i) = 0
  | [] => rfl
  | d :: r => by
    have e : firms (d :: r) i = firmE i d ++ firms r i := rfl
    rw [e, total_app, total_firms i r]
    unfold firmE
    rw [total_app]
    by_cases h1 : d.f0 = i <;> by_cases h2 : d.f1 = i
    · rw [if_pos h1, if_pos h2]; simp [sellE, buyE, total]; omega
    · rw [if_pos h1, if_neg h2]; simp [sellE, total]; omega
    · rw [if_neg h1, if_pos h2]; simp [buyE, total]; omega
    · rw [if_neg h1, if_neg h2]; simp [total]
theorem w00 : wrap64 0 = 0 := wrap_in (by omega) (by omega)
theorem group_l1 (l : List S81) (n : Int) (e all f : List S51) (i : Int) (hf : f.length ≤ 1000000) (r : Bool)
    (hr : Ev (fun k => (impl_AddEntries.f k all f).bind fun bt285 => (if wrap64 (total f) = 0 then (if bt285.2 = true then (laws_FnGroup.l0 k l n e bt285.1 (wrap64 (i + 1))) else (some false)) else (some false))) r) : Ev (fun k => laws_FnGroup.l1 k l n e all i f 0 0) r := by
  have key : ∀ (d : Nat) (j : Int), 0 ≤ j → (f.length : Int) - j = d → Ev (fun k => laws_FnGroup.l1 k l n e all i f (wrap64 (total (f.take j.toNat))) j) r := by
    intro d
    induction d with
    | zero =>
      intro j h0 hd
      rw [List.take_of_length_le (by omega)]
      exact Ev.step (fun k => laws_FnGroup.l1.eq_2 l n e all i f _ j k) (neg (by omega) hr)
    | succ d ih =>
      intro j h0 hd
      have hlt : j < (f.length : Int) := by omega
      have h := ih (j + 1) (by omega) (by omega)
      have et : f.take (j.toNat + 1) = f.take j.toNat ++ [rd_T51 f j] := by
        rw [List.take_succ_eq_append_getElem (by omega)]
        congr 1
        unfold rd_T51
        rw [List.getD_eq_getElem?_getD, List.getElem?_eq_getElem (by omega)]
        rfl
      have ew : wrap64 (total (f.take j.toNat ++ [rd_T51 f j])) = wrap64 (wrap64 (total (f.take j.toNat)) + (rd_T51 f j).f1) := by
        rw [total_app]
        show wrap64 (_ + ((rd_T51 f j).f1 + 0)) = _
        unfold wrap64
        omega
      rw [show (j + 1).toNat = j.toNat + 1 by omega, et, ew, ← wrap_inc h0 hlt (by omega)] at h
      exact Ev.step (fun k => laws_FnGroup.l1.eq_2 l n e all i f _ j k) (pos hlt (pos h0 h))
  have h := key f.length 0 (by omega) (by omega)
  rw [show wrap64 (total (f.take (0 : Int).toNat)) = 0 from w00] at h
  exact h
theorem FnGroup : laws_FnGroup.Pure := by
  intro l g1 g2 g3
  have hl : l.length ≤ 140737488351232 := by omega
  obtain ⟨b, hb⟩ : ∃ b, laws_big.f l = some b := by
    unfold laws_big.f
    exact ⟨_, rfl⟩
  obtain ⟨ds, n, hd, hds⟩ := drawelim_ok l hl
  refine Ev.rounds (known hb ?_)
  refine ite_ (fun _ => Ev.now _) (fun _ => Ev.bind hd (Ev.bind (elim_i ds (by omega) n) (Ev.bind (deals_s ds (by omega) n) ?_)))
  by_cases h : dealsB ds n = true
  · refine pos h ?_
    obtain ⟨⟨n0, n6⟩, -, h2⟩ := deals_iff h
    have hE : elimR ds n = addAll [] (elims ds) := if_pos h
    rw [hE]
    have el := elims_len ds
    have fe := elims_five h
    have key : ∀ (d i : Nat), (n : Int) - (i : Int) = d → Ev (fun k => laws_FnGroup.l0 k ds n (addAll [] (elims ds)) (addAll [] (upto ds i)) (i : Int)) true := by
      intro d
      induction d with
      | zero =>
        intro i hd
        have hi : n = (i : Int) := by omega
        have hul := upto_len ds i
        have hul2 : (upto ds i).length ≤ 216 := by
          have : 6 * ds.length * i ≤ 36 * 6 := Nat.mul_le_mul (by omega) (by omega)
          omega
        have fu := upto_five h i
        have h1 := addAll_len (upto ds i) []
        have h3 := addAll_len (elims ds) []
        simp only [List.length_nil, Nat.zero_add] at h1 h3
        refine Ev.step (fun k => laws_FnGroup.l0.eq_2 ds n _ _ (i : Int) k) (neg (by omega) (Ev.bind (add_i _ _ (by omega) (fun x hx => (List.mem_append.1 hx).elim (all_mod fu (by omega) x) (all_mod fe (by omega) x))) (pos rfl (cong (Ev.now _) ?_))))
        have hz : addAll [] (addAll [] (upto ds i) ++ addAll [] (elims ds)) = [] := by
          rw [all_norm fu fe (by omega)]
          have hr : ∀ x ∈ upto ds i ++ elims ds, Rng x.f1 := fun x hx => (List.mem_append.1 hx).elim (rng_five fu x) (rng_five fe x)
          refine can_eq (addAll_can _ (t := []) trivial hr) (m := []) trivial (fun b => ?_)
          rw [addAll_val b _ (t := []) trivial hr, all_zero b i ds (fun x hx => by have := h2 x hx; omega)]
          exact w00
        show (((addAll [] (addAll [] (upto ds i) ++ addAll [] (elims ds))).length : Int) == 0) = true
        rw [hz]
        rfl
      | succ d ih =>
        intro i hd
        have hlt : (i : Int) < n := by omega
        have hul := upto_len ds i
        have hul2 : (upto ds i).length ≤ 216 := by
          have : 6 * ds.length * i ≤ 36 * 6 := Nat.mul_le_mul (by omega) (by omega)
          omega
        have fu := upto_five h i
        have ff := firms_five h (i : Int)
        have fl := firms_len ds (i : Int)
        have h1 := addAll_len (upto ds i) []
        have h3 := addAll_len (firms ds (i : Int)) []
        simp only [List.length_nil, Nat.zero_add] at h1 h3
        have hh := ih (i + 1) (by omega)
        have hn : addAll [] (upto ds (i + 1)) = addAll [] (addAll [] (upto ds i) ++ addAll [] (firms ds (i : Int))) := (all_norm fu ff (by omega)).symm
        have hw : wrap64 ((i : Int) + 1) = ((i + 1 : Nat) : Int) := by
          rw [wrap_in (by omega) (by omega)]
          omega
        rw [hn, ← hw] at hh
        have ht : wrap64 (total (addAll [] (firms ds (i : Int)))) = 0 := by
          rw [total_all, total_firms]
          exact w00
        refine Ev.step (fun k => laws_FnGroup.l0.eq_2 ds n _ _ (i : Int) k) (pos hlt (Ev.bind (firm_i ds n (i : Int) h) (group_l1 _ _ _ _ _ _ (by omega) _ (Ev.bind (add_i _ _ (by omega) (fun x hx => (List.mem_append.1 hx).elim (all_mod fu (by omega) x) (all_mod ff (by omega) x))) (pos ht (pos rfl hh))))))
    exact key n.toNat 0 (by omega)
  · refine neg h (cong (Ev.now _) ?_)
    unfold elimR
    rw [if_neg h]
    rfl

end Go.Proofs.Ytjhjeghgeclglaa.PureFnGroup
namespace Go.Proofs.Ytjhjeghgeclglaa.Pure
theorem FnGroup : Go.Proofs.Ytjhjeghgeclglaa.PFnGroup.laws_FnGroup.Pure := Go.Proofs.Ytjhjeghgeclglaa.PureFnGroup.FnGroup
end Go.Proofs.Ytjhjeghgeclglaa.Pure
