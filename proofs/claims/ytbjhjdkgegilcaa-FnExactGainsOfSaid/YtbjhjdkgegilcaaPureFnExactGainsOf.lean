/- Plain laws for FnExactGainsOf (what the printed functions compute). -/
import Derived.Test.YtbjhjdkgegilcaaPFnExactGainsOfx4
import Derived.Test.YtbjhjdkgegilcaaEv
namespace Go.Proofs.Ytbjhjdkgegilcaa.PureFnExactGainsOf
open Go.RowKit Go.Proofs.Ytbjhjdkgegilcaa.PFnExactGainsOf Go.Proofs.YtbjhjdkgegilcaaW.PrintWords Go.Proofs.YtbjhjdkgegilcaaW.PrintLast Go.Proofs.YtbjhjdkgegilcaaW.PrintMore Go.Proofs.YtbjhjdkgegilcaaEv
set_option linter.unusedVariables false
def inB (a b c : Int) : Bool := decide (a ≥ b) && decide (a ≤ c)
theorem inB_iff {a b c : Int} : inB a b c = true ↔ b ≤ a ∧ a ≤ c := by simp [inB]
theorem in_s (a b c : Int) : spec_l1In.f a b c = some (inB a b c) := by
  unfold spec_l1In.f inB
  by_cases h : a ≥ b <;> simp [h]
theorem in_i (a b c : Int) : impl_in.f a b c = some (inB a b c) := in_s a b c
theorem prod_in {a b : Int} (h1 : -1000000000 ≤ a) (h2 : a ≤ 1000000000) (h3 : -1000000000 ≤ b) (h4 : b ≤ 1000000000) : -1000000000000000000 ≤ a * b ∧ a * b ≤ 1000000000000000000 := by
  have h := Int.natAbs_mul a b
  have h5 : a.natAbs * b.natAbs ≤ 1000000000 * 1000000000 := Nat.mul_le_mul (by omega) (by omega)
  omega
theorem gcd_step (a b : Int) : Int.gcd b (Int.tmod a b) = Int.gcd a b := by
  unfold Int.gcd
  rw [Int.natAbs_tmod, Nat.gcd_comm, ← Nat.gcd_rec, Nat.gcd_comm]
theorem tmod_lt (a b : Int) (h : b ≠ 0) : (Int.tmod a b).natAbs < b.natAbs := by
  rw [Int.natAbs_tmod]
  exact Nat.mod_lt _ (by omega)
theorem gcd_s : ∀ (m : Nat) (a b : Int), b.natAbs ≤ m → -9223372036854775807 ≤ a → a ≤ 9223372036854775807 → -9223372036854775807 ≤ b → b ≤ 9223372036854775807 → Ev (fun k => spec_l2Gcd.l0 k a b) (Int.gcd a b) := by
  intro m
  induction m with
  | zero =>
    intro a b hb h1 h2 h3 h4
    obtain rfl : b = 0 := by omega
    refine Ev.step (fun k => spec_l2Gcd.l0.eq_2 a 0 k) (pos rfl (cong (Ev.now _) ?_))
    rw [Int.gcd_zero_right, wrap_in (by omega) (by omega)]
    unfold mx
    split <;> omega
  | succ m ih =>
    intro a b hb h1 h2 h3 h4
    by_cases h0 : b = 0
    · exact ih a b (by omega) h1 h2 h3 h4
    · have ht := tmod_lt a b h0
      have h := ih b (Int.tmod a b) (by omega) h3 h4 (by omega) (by omega)
      rw [gcd_step] at h
      exact Ev.step (fun k => spec_l2Gcd.l0.eq_2 a b k) (neg h0 h)
theorem gcd_i : ∀ (m : Nat) (a b : Int), b.natAbs ≤ m → 0 ≤ a → 0 ≤ b → Ev (fun k => impl_divisor.l0 k a b) (Int.gcd a b) := by
  intro m
  induction m with
  | zero =>
    intro a b hb h1 h3
    obtain rfl : b = 0 := by omega
    refine Ev.step (fun k => impl_divisor.l0.eq_2 a 0 k) (pos rfl (cong (Ev.now _) ?_))
    rw [Int.gcd_zero_right]
    omega
  | succ m ih =>
    intro a b hb h1 h3
    by_cases h0 : b = 0
    · exact ih a b (by omega) h1 h3
    · have ht := tmod_lt a b h0
      have hn : 0 ≤ Int.tmod a b := Int.tmod_nonneg b h1
      have h := ih b (Int.tmod a b) (by omega) h3 hn
      rw [gcd_step] at h
      exact Ev.step (fun k => impl_divisor.l0.eq_2 a b k) (neg h0 h)
theorem abs_i {a : Int} (h : -9223372036854775807 ≤ a) (h2 : a ≤ 9223372036854775807) : impl_absolute.f a = some (a.natAbs : Int) := by
  unfold impl_absolute.f
  by_cases h0 : a < 0
  · rw [if_pos h0, wrap_in (by omega) (by omega)]
    congr 1
    omega
  · rw [if_neg h0]
    congr 1
    omega
def ratioB (n d : Int) : Bool := inB d 1 1000000000 && (inB n (-1000000000) 1000000000 && (Int.gcd n d == 1))
theorem ratio_iff {n d : Int} : ratioB n d = true ↔ (1 ≤ d ∧ d ≤ 1000000000) ∧ (-1000000000 ≤ n ∧ n ≤ 1000000000) ∧ Int.gcd n d = 1 := by
  simp [ratioB, inB_iff]
theorem ratio_s (n d : Int) : Ev (fun k => spec_IsRatio.f k n d) (ratioB n d) := by
  refine known (in_s _ _ _) ?_
  unfold ratioB
  by_cases h1 : inB d 1 1000000000 = true
  · refine pos h1 (known (in_s _ _ _) ?_)
    rw [h1, Bool.true_and]
    by_cases h2 : inB n (-1000000000) 1000000000 = true
    · refine pos h2 ?_
      rw [h2, Bool.true_and]
      have b1 := inB_iff.1 h1
      have b2 := inB_iff.1 h2
      refine Ev.bind (gcd_s d.natAbs n d (Nat.le_refl _) (by omega) (by omega) (by omega) (by omega)) (cong (Ev.now _) ?_)
      rw [Bool.eq_iff_iff, beq_iff_eq, beq_iff_eq]
      omega
    · refine neg h2 (cong (Ev.now _) ?_)
      simp at h2
      simp [h2]
  · refine neg h1 (cong (Ev.now _) ?_)
    simp at h1
    simp [h1]
theorem ratio_i (n d : Int) : Ev (fun k => impl_IsRatio.f k n d) (ratioB n d) := by
  refine known (in_i _ _ _) ?_
  unfold ratioB
  by_cases h1 : inB d 1 1000000000 = true
  · refine pos h1 (known (in_i _ _ _) ?_)
    rw [h1, Bool.true_and]
    by_cases h2 : inB n (-1000000000) 1000000000 = true
    · refine pos h2 ?_
      rw [h2, Bool.true_and]
      have b1 := inB_iff.1 h1
      have b2 := inB_iff.1 h2
      have e : Int.gcd (n.natAbs : Int) d = Int.gcd n d := by unfold Int.gcd; simp
      refine known (abs_i (by omega) (by omega)) (Ev.bind (gcd_i d.natAbs n.natAbs d (Nat.le_refl _) (by omega) (by omega)) (cong (Ev.now _) ?_))
      rw [e, Bool.eq_iff_iff, beq_iff_eq, beq_iff_eq]
      omega
    · refine neg h2 (cong (Ev.now _) ?_)
      simp at h2
      simp [h2]
  · refine neg h1 (cong (Ev.now _) ?_)
    simp at h1
    simp [h1]
def rateB (n d : Int) : Bool := ratioB n d && (decide (n > 0) && decide (n ≤ 1000 * d))
theorem rate_iff {n d : Int} : rateB n d = true ↔ ratioB n d = true ∧ 0 < n ∧ n ≤ 1000 * d := by simp [rateB]
theorem rate_s (n d : Int) : Ev (fun k => spec_IsRate.f k n d) (rateB n d) := by
  refine Ev.bind (ratio_s n d) ?_
  unfold rateB
  by_cases h1 : ratioB n d = true
  · have b := ratio_iff.1 h1
    refine pos h1 ?_
    rw [h1, Bool.true_and]
    by_cases h2 : n > 0
    · refine pos h2 (cong (Ev.now _) ?_)
      rw [wrap_in (by omega) (by omega)]
      simp [h2]
    · refine neg h2 (cong (Ev.now _) ?_)
      simp [h2]
  · refine neg h1 (cong (Ev.now _) ?_)
    simp at h1
    simp [h1]
theorem rate_i (n d : Int) : Ev (fun k => impl_IsRate.f k n d) (rateB n d) := by
  refine Ev.bind (ratio_i n d) ?_
  unfold rateB
  by_cases h1 : ratioB n d = true
  · have b := ratio_iff.1 h1
    refine pos h1 ?_
    rw [h1, Bool.true_and]
    by_cases h2 : n > 0
    · refine pos h2 (cong (Ev.now _) ?_)
      rw [wrap_in (by omega) (by omega)]
      simp [h2]
    · refine neg h2 (cong (Ev.now _) ?_)
      simp [h2]
  · refine neg h1 (cong (Ev.now _) ?_)
    simp at h1
    simp [h1]
theorem floor_val {n d : Int} (hd : 0 < d) (h1 : -1000000000000000000 ≤ n) (h2 : n ≤ 1000000000000000000) : (if Int.tmod n d < 0 then some (wrap64 ((wrap64 (Int.tdiv n d)) - 1)) else some (wrap64 (Int.tdiv n d))) = some (n / d) := by
  have ha := Int.natAbs_tdiv n d
  have hb : (Int.tdiv n d).natAbs ≤ n.natAbs := by rw [ha]; exact Nat.div_le_self _ _
  rw [wrap_in (i := Int.tdiv n d) (by omega) (by omega), wrap_in (by omega) (by omega)]
  have e := Int.mul_tdiv_add_tmod n d
  have t := tmod_lt n d (by omega)
  by_cases h : Int.tmod n d < 0
  · rw [if_pos h]
    congr 1
    symm
    rw [Int.ediv_eq_iff_of_pos hd]
    have e2 : (Int.tdiv n d - 1) * d = d * Int.tdiv n d - d := by rw [Int.sub_mul, Int.one_mul, Int.mul_comm]
    rw [e2]
    omega
  · rw [if_neg h]
    congr 1
    symm
    rw [Int.ediv_eq_iff_of_pos hd]
    have e2 : Int.tdiv n d * d = d * Int.tdiv n d := Int.mul_comm _ _
    rw [e2]
    omega
theorem floor_s {n d : Int} (hd : 0 < d) (h1 : -1000000000000000000 ≤ n) (h2 : n ≤ 1000000000000000000) : spec_l2Floor.f n d = some (n / d) := by
  unfold spec_l2Floor.f
  rw [if_neg (by omega), floor_val hd h1 h2]
theorem floor_i {n d : Int} (hd : 0 < d) (h1 : -1000000000000000000 ≤ n) (h2 : n ≤ 1000000000000000000) : impl_floorOf.f n d = some (n / d) := by
  unfold impl_floorOf.f
  rw [if_neg (by omega), floor_val hd h1 h2]
def amtB (a : Int) : Bool := inB a (-1000000000) 1000000000
def valR (a n d : Int) : Int × Bool := if amtB a = true ∧ rateB n d = true then (a * n / d, true) else (0, false)
theorem val_s (a n d : Int) : Ev (fun k => spec_ValueAt.f k a n d) (valR a n d) := by
  refine known (in_s _ _ _) ?_
  show Ev (fun k => if amtB a = true then _ else _) _
  unfold valR
  by_cases h1 : amtB a = true
  · refine pos h1 (Ev.bind (rate_s _ _) ?_)
    by_cases h2 : rateB n d = true
    · have b1 := inB_iff.1 h1
      have b2 := rate_iff.1 h2
      have b3 := ratio_iff.1 b2.1
      have p1 := prod_in (a := a) (b := n) (by omega) (by omega) (by omega) (by omega)
      rw [if_pos (⟨h1, h2⟩ : amtB a = true ∧ rateB n d = true), wrap_in (i := a * n) (by omega) (by omega)]
      exact pos h2 (known (floor_s (by omega) p1.1 p1.2) (Ev.now _))
    · exact neg h2 (cong (Ev.now _) (by simp [h2]))
  · exact neg h1 (cong (Ev.now _) (by simp [h1]))
theorem val_bd {a n d : Int} (h1 : amtB a = true) (h2 : rateB n d = true) : -1000000000000 ≤ a * n / d ∧ a * n / d ≤ 1000000000000 := by
  have b1 := inB_iff.1 h1
  have b2 := rate_iff.1 h2
  have b3 := ratio_iff.1 b2.1
  have hn : n ≤ 1000 * d := b2.2.2
  constructor
  · refine (Int.le_ediv_iff_mul_le (by omega)).2 ?_
    have e1 : (-1000000000) * n ≤ a * n := Int.mul_le_mul_of_nonneg_right b1.1 (by omega)
    omega
  · refine Int.ediv_le_of_le_mul (by omega) ?_
    have e1 : a * n ≤ 1000000000 * n := Int.mul_le_mul_of_nonneg_right b1.2 (by omega)
    omega
theorem valR_bd (a n d : Int) : -1000000000000 ≤ (valR a n d).1 ∧ (valR a n d).1 ≤ 1000000000000 := by
  unfold valR
  split
  · rename_i h
    exact val_bd h.1 h.2
  · simp
theorem val_i (a n d : Int) : Ev (fun k => impl_ValueAt.f k a n d) (valR a n d) := by
  refine known (in_i _ _ _) ?_
  show Ev (fun k => if amtB a = true then _ else _) _
  unfold valR
  by_cases h1 : amtB a = true
  · refine pos h1 (Ev.bind (rate_i _ _) ?_)
    by_cases h2 : rateB n d = true
    · have b1 := inB_iff.1 h1
      have b2 := rate_iff.1 h2
      have b3 := ratio_iff.1 b2.1
      have p1 := prod_in (a := a) (b := n) (by omega) (by omega) (by omega) (by omega)
      rw [if_pos (⟨h1, h2⟩ : amtB a = true ∧ rateB n d = true), wrap_in (i := a * n) (by omega) (by omega)]
      exact pos h2 (known (floor_i (by omega) p1.1 p1.2) (Ev.now _))
    · exact neg h2 (cong (Ev.now _) (by simp [h2]))
  · exact neg h1 (cong (Ev.now _) (by simp [h1]))

/-- The differences of the values of an amount, from place i on. -/
def okAt (a : Int) (rs : List S34) (i : Nat) : Bool := (valR a (rs.getD i z34).f0 (rs.getD i z34).f1).2
def vAt (a : Int) (rs : List S34) (i : Nat) : Int := (valR a (rs.getD i z34).f0 (rs.getD i z34).f1).1
def gainsTo (a : Int) (rs : List S34) : Nat → List Int
  | 0 => []
  | i + 1 => if i = 0 then [] else gainsTo a rs i ++ [vAt a rs i - vAt a rs (i - 1)]
def allOk (a : Int) (rs : List S34) : Bool := (List.range rs.length).all (okAt a rs)
def gainsR (a : Int) (rs : List S34) : List Int × Bool := if (1 ≤ rs.length ∧ rs.length ≤ 40) ∧ allOk a rs = true then (gainsTo a rs rs.length, true) else ([], false)
theorem gainsTo_len (a : Int) (rs : List S34) : ∀ i, (gainsTo a rs i).length = i - 1
  | 0 => rfl
  | i + 1 => by
    unfold gainsTo
    split
    · rename_i h
      simp [h]
    · rw [List.length_append, gainsTo_len a rs i]
      simp
      omega
theorem rd_get (rs : List S34) (i : Nat) : rd_T34 rs (i : Int) = rs.getD i z34 := by simp [rd_T34]
theorem gains_i (a : Int) (rs : List S34) : Ev (fun k => impl_GainsOf.f k a rs) (gainsR a rs) := by
  refine known (in_i _ _ _) ?_
  by_cases hl : 1 ≤ rs.length ∧ rs.length ≤ 40
  · refine pos (inB_iff.2 (by omega)) ?_
    have key : ∀ (d i : Nat) (last : Int), i + d = rs.length → (0 < i → last = vAt a rs (i - 1)) → (∀ j, j < i → okAt a rs j = true) → Ev (fun k => impl_GainsOf.l0 k a (gainsTo a rs i) last rs rs.length (i : Int)) (gainsR a rs) := by
      intro d
      induction d with
      | zero =>
        intro i last hi hlast hok
        refine Ev.step (fun k => impl_GainsOf.l0.eq_2 a _ last rs rs.length (i : Int) k) (neg (by omega) (cong (Ev.now _) ?_))
        unfold gainsR
        rw [if_pos ⟨hl, List.all_eq_true.2 fun j hj => hok j (by have := List.mem_range.1 hj; omega)⟩]
        simp at hi
        rw [hi]
      | succ d ih =>
        intro i last hi hlast hok
        have hw : wrap64 ((i : Int) + 1) = ((i + 1 : Nat) : Int) := by rw [wrap_inc (n := rs.length) (by omega) (by omega) (by omega)]; omega
        refine Ev.step (fun k => impl_GainsOf.l0.eq_2 a _ last rs rs.length (i : Int) k) (pos (by omega) (pos (by omega) (pos (by omega) ?_)))
        rw [rd_get]
        refine Ev.bind (val_i _ _ _) ?_
        by_cases hv : okAt a rs i = true
        · have ih' := fun h1 => ih (i + 1) (vAt a rs i) (by omega) (fun _ => rfl) h1
          have ih2 := ih' (fun j hj => by
            rcases Nat.lt_or_ge j i with h | h
            · exact hok j h
            · rw [show j = i by omega]; exact hv)
          refine pos hv ?_
          rw [hw]
          have hb1 := valR_bd a (rs.getD i z34).f0 (rs.getD i z34).f1
          by_cases h0 : (i : Int) > 0
          · refine pos h0 (pos (by rw [gainsTo_len]; omega) ?_)
            have hb2 := valR_bd a (rs.getD (i - 1) z34).f0 (rs.getD (i - 1) z34).f1
            rw [hlast (by omega)]
            have e : gainsTo a rs (i + 1) = gainsTo a rs i ++ [wrap64 ((valR a (rs.getD i z34).f0 (rs.getD i z34).f1).1 - vAt a rs (i - 1))] := by
              rw [show gainsTo a rs (i + 1) = if i = 0 then [] else gainsTo a rs i ++ [vAt a rs i - vAt a rs (i - 1)] from rfl, if_neg (by omega), wrap_in (by unfold vAt; omega) (by unfold vAt; omega)]
              rfl
            rw [e] at ih2
            exact ih2
          · refine neg h0 ?_
            obtain rfl : i = 0 := by omega
            exact ih2
        · refine neg hv (cong (Ev.now _) ?_)
          unfold gainsR
          rw [if_neg]
          rintro ⟨_, h⟩
          exact hv (List.all_eq_true.1 h i (List.mem_range.2 (by omega)))
    exact key rs.length 0 0 (by omega) (by omega) (by omega)
  · refine neg (fun h => hl (by have := inB_iff.1 h; omega)) (cong (Ev.now _) ?_)
    unfold gainsR
    rw [if_neg (fun h => hl h.1)]
theorem gains_s (a : Int) (rs : List S34) : Ev (fun k => spec_GainsOf.f k a rs) (gainsR a rs) := by
  by_cases hl : 1 ≤ rs.length ∧ rs.length ≤ 40
  · have key : ∀ (d i : Nat), i + d = rs.length → (∀ j, j < i → okAt a rs j = true) → Ev (fun k => spec_GainsOf.l0 k a rs (gainsTo a rs i) (i : Int)) (gainsR a rs) := by
      intro d
      induction d with
      | zero =>
        intro i hi hok
        refine Ev.step (fun k => spec_GainsOf.l0.eq_2 a rs _ (i : Int) k) (neg (by omega) (Ev.step (fun k => spec_GainsOf.j1.eq_2 a rs _ (i : Int) false k) (neg (by simp) (known (in_s _ _ _) (cong (Ev.now _) ?_)))))
        unfold gainsR
        rw [if_pos ⟨hl, List.all_eq_true.2 fun j hj => hok j (by have := List.mem_range.1 hj; omega)⟩]
        simp at hi
        rw [hi, inB_iff.2 (by omega)]
      | succ d ih =>
        intro i hi hok
        have hw : wrap64 ((i : Int) + 1) = ((i + 1 : Nat) : Int) := by rw [wrap_inc (n := rs.length) (by omega) (by omega) (by omega)]; omega
        refine Ev.step (fun k => spec_GainsOf.l0.eq_2 a rs _ (i : Int) k) (pos (by omega) (Ev.step (fun k => spec_GainsOf.j1.eq_2 a rs _ (i : Int) _ k) (pos (by simp; omega) (pos (by omega) (pos (by omega) ?_)))))
        rw [rd_get]
        refine Ev.bind (val_s _ _ _) ?_
        by_cases hv : okAt a rs i = true
        · have ih2 := ih (i + 1) (by omega) (fun j hj => by
            rcases Nat.lt_or_ge j i with h | h
            · exact hok j h
            · rw [show j = i by omega]; exact hv)
          refine pos hv ?_
          rw [hw]
          have hb1 := valR_bd a (rs.getD i z34).f0 (rs.getD i z34).f1
          by_cases h0 : (i : Int) > 0
          · have hwd : wrap64 ((i : Int) - 1) = ((i - 1 : Nat) : Int) := by rw [wrap_dec (n := (i : Int)) h0 (by omega) (by omega)]; omega
            have hb2 := valR_bd a (rs.getD (i - 1) z34).f0 (rs.getD (i - 1) z34).f1
            rw [hwd, rd_get]
            refine pos h0 (pos (by omega) (pos (by omega) (Ev.bind (val_s _ _ _) (pos (by rw [gainsTo_len]; omega) ?_))))
            have e : gainsTo a rs (i + 1) = gainsTo a rs i ++ [wrap64 ((valR a (rs.getD i z34).f0 (rs.getD i z34).f1).1 - (valR a (rs.getD (i - 1) z34).f0 (rs.getD (i - 1) z34).f1).1)] := by
              rw [show gainsTo a rs (i + 1) = if i = 0 then [] else gainsTo a rs i ++ [vAt a rs i - vAt a rs (i - 1)] from rfl, if_neg (by omega), wrap_in (by omega) (by omega)]
              rfl
            rw [e] at ih2
            exact ih2
          · refine neg h0 ?_
            obtain rfl : i = 0 := by omega
            exact ih2
        · refine neg hv (cong (Ev.now _) ?_)
          unfold gainsR
          rw [if_neg]
          rintro ⟨_, h⟩
          exact hv (List.all_eq_true.1 h i (List.mem_range.2 (by omega)))
    exact key rs.length 0 (by omega) (by omega)
  · have e : gainsR a rs = ([], false) := by unfold gainsR; rw [if_neg (fun h => hl h.1)]
    rw [e]
    have hj : Ev (fun k => spec_GainsOf.j1 k a rs [] 0 false) ([], false) := by
      refine Ev.step (fun k => spec_GainsOf.j1.eq_2 a rs [] 0 false k) (neg (by simp) (known (in_s _ _ _) (cong (Ev.now _) ?_)))
      rw [Prod.mk.injEq]
      refine ⟨rfl, ?_⟩
      rw [← Bool.not_eq_true, inB_iff]
      omega
    refine Ev.step (fun k => spec_GainsOf.l0.eq_2 a rs [] 0 k) ?_
    by_cases h0 : (0 : Int) < (rs.length : Int)
    · refine pos h0 ?_
      have hd : decide ((rs.length : Int) ≤ 40) = false := decide_eq_false (by omega)
      rw [hd]
      exact hj
    · exact neg h0 hj

theorem eqInt_f (a : List Int) (hl : a.length ≤ 140737488351232) : Ev (fun k => laws_eqIntS.f k a a) true := by
  have key : ∀ (d : Nat) (i : Int), 0 ≤ i → (a.length : Int) - i = d → Ev (fun k => laws_eqIntS.l0 k a a i) true := by
    intro d
    induction d with
    | zero =>
      intro i h0 hd
      exact Ev.step (fun k => laws_eqIntS.l0.eq_2 a a i k) (neg (by omega) (Ev.now _))
    | succ d ih =>
      intro i h0 hd
      have hlt : i < (a.length : Int) := by omega
      have h := ih (i + 1) (by omega) (by omega)
      rw [← wrap_inc h0 hlt (by omega)] at h
      exact Ev.step (fun k => laws_eqIntS.l0.eq_2 a a i k) (pos hlt (pos h0 (pos hlt (pos rfl h))))
  exact pos rfl (key a.length 0 (by omega) (by omega))
theorem markInt_l0 : ∀ (d : Nat) (l : List Int) (c i : Int), 0 ≤ i → (l.length : Int) - i = d → l.length ≤ 1000000000000 → 0 < c → c + d ≤ 1000000000000 →
    ∃ l', Ev (fun k => laws_markIntS.l0 k l c i) (c + d, l') ∧ l'.length = l.length ∧ (∀ j : Nat, j < i.toNat → l'.getD j 0 = l.getD j 0) ∧ Ev (fun k => laws_heldIntS.l0 k l' c i) (c + d) := by
  intro d
  induction d with
  | zero =>
    intro l c i h0 hd hl hc hb
    refine ⟨l, Ev.step (fun k => laws_markIntS.l0.eq_2 l c i k) (neg (by omega) (cong (Ev.now _) (by simp))), rfl, fun _ _ => rfl, Ev.step (fun k => laws_heldIntS.l0.eq_2 l c i k) (neg (by omega) (cong (Ev.now _) (by simp)))⟩
  | succ d ih =>
    intro l c i h0 hd hl hc hb
    have hlt : i < (l.length : Int) := by omega
    have hwi : wrap64 (i + 1) = i + 1 := wrap_inc h0 hlt (by omega)
    have hwc : wrap64 (c + 1) = c + 1 := wrap_in (by omega) (by omega)
    obtain ⟨l', e1, e2, e3, e4⟩ := ih (l.set i.toNat c) (c + 1) (i + 1) (by omega) (by simp; omega) (by simpa using hl) (by omega) (by omega)
    have hn : c + 1 + (d : Int) = c + ((d + 1 : Nat) : Int) := by omega
    rw [hn] at e1 e4
    have hat : rd l' i = c := by
      have := e3 i.toNat (by omega)
      unfold rd
      rw [this, List.getD_eq_getElem?_getD, List.getElem?_set_self (by omega)]
      rfl
    refine ⟨l', Ev.step (fun k => laws_markIntS.l0.eq_2 l c i k) (pos hlt (pos h0 ?_)), by rw [e2]; simp, fun j hj => ?_, Ev.step (fun k => laws_heldIntS.l0.eq_2 l' c i k) (pos (by rw [e2]; simpa using hlt) (pos h0 (pos hat ?_)))⟩
    · rw [hwi, hwc]
      exact e1
    · rw [e3 j (by omega), List.getD_eq_getElem?_getD, List.getD_eq_getElem?_getD, List.getElem?_set_ne (by omega)]
    · rw [hwi, hwc]
      exact e4
theorem markInt_f (l : List Int) (hl : l.length ≤ 100000000000) : ∃ l', Ev (fun k => laws_markIntS.f k l 1) (1 + (l.length : Int), l') ∧ Ev (fun k => laws_heldIntS.f k l' 1) (1 + (l.length : Int)) := by
  obtain ⟨l', e1, _, _, e4⟩ := markInt_l0 l.length l 1 0 (by omega) (by omega) (by omega) (by omega) (by omega)
  exact ⟨l', e1, e4⟩

def cRatio (x : S30) : S34 := ⟨x.f0, x.f1⟩
theorem toRatio_l0 (l : List S30) (hl : l.length ≤ 8796093022208) : ∀ (d : Nat) (acc : List S34) (i : Int), acc.length = l.length → 0 ≤ i → (l.length : Int) - i = d →
    Ev (fun k => laws_toRatioS.l0 k l acc i) (acc.take i.toNat ++ (l.drop i.toNat).map cRatio) := by
  intro d
  induction d with
  | zero =>
    intro acc i ha h0 hd
    refine Ev.step (fun k => laws_toRatioS.l0.eq_2 l acc i k) (neg (by omega) (cong (Ev.now _) ?_))
    rw [List.take_of_length_le (by omega), List.drop_of_length_le (by omega)]
    simp
  | succ d ih =>
    intro acc i ha h0 hd
    have hlt : i < (l.length : Int) := by omega
    have hw : wrap64 (i + 1) = i + 1 := wrap_inc h0 hlt (by omega)
    have h := ih (acc.set i.toNat (cRatio (rd_T30 l i))) (i + 1) (by simpa using ha) (by omega) (by omega)
    rw [← hw] at h
    refine Ev.step (fun k => laws_toRatioS.l0.eq_2 l acc i k) (pos hlt (pos h0 (known rfl (pos (by omega) (cong h ?_)))))
    rw [hw, show (i + 1).toNat = i.toNat + 1 by omega, set_take _ _ _ _ (by omega), drop_at l z30 i.toNat (by omega)]
    rfl
theorem toRatio_f (l : List S30) (hl : l.length ≤ 8796093022208) : Ev (fun k => laws_toRatioS.f k l) (l.map cRatio) := by
  refine pos (by omega) (pos (by simp; omega) (cong (toRatio_l0 l hl l.length (List.replicate ((l.length : Int)).toNat z34) 0 (by simp) (by omega) (by omega)) ?_))
  simp
theorem eqRatio_f (a : List S34) (hl : a.length ≤ 8796093022208) : Ev (fun k => laws_eqRatioS.f k a a) true := by
  have key : ∀ (d : Nat) (i : Int), 0 ≤ i → (a.length : Int) - i = d → Ev (fun k => laws_eqRatioS.l0 k a a i) true := by
    intro d
    induction d with
    | zero =>
      intro i h0 hd
      exact Ev.step (fun k => laws_eqRatioS.l0.eq_2 a a i k) (neg (by omega) (Ev.now _))
    | succ d ih =>
      intro i h0 hd
      have hlt : i < (a.length : Int) := by omega
      have h := ih (i + 1) (by omega) (by omega)
      rw [← wrap_inc h0 hlt (by omega)] at h
      exact Ev.step (fun k => laws_eqRatioS.l0.eq_2 a a i k) (pos hlt (pos h0 (pos hlt (known (show laws_eqRatio.f _ _ _ _ = some true by simp [laws_eqRatio.f]) (pos rfl h)))))
  exact pos rfl (key a.length 0 (by omega) (by omega))
theorem markRatio_f (l : List S34) (hl : l.length ≤ 1000000000) : ∃ r l', Ev (fun k => laws_markRatioS.f k l 1) (r, l') ∧ 0 < r := by
  have key : ∀ (d : Nat) (l : List S34) (c i : Int), 0 ≤ i → (l.length : Int) - i = d → l.length ≤ 1000000000 → 0 < c → c + 2 * d ≤ 1000000000000 → ∃ r l', Ev (fun k => laws_markRatioS.l0 k l c i) (r, l') ∧ 0 < r := by
    intro d
    induction d with
    | zero =>
      intro l c i h0 hd hl hc hb
      exact ⟨c, l, Ev.step (fun k => laws_markRatioS.l0.eq_2 l c i k) (neg (by omega) (Ev.now _)), hc⟩
    | succ d ih =>
      intro l c i h0 hd hl hc hb
      have hlt : i < (l.length : Int) := by omega
      have hwi : wrap64 (i + 1) = i + 1 := wrap_inc h0 hlt (by omega)
      have hwc : wrap64 (c + 1) = c + 1 := wrap_in (by omega) (by omega)
      have hwd : wrap64 (c + 1 + 1) = c + 1 + 1 := wrap_in (by omega) (by omega)
      obtain ⟨r, l', e, hr⟩ := ih ((l.set i.toNat (⟨c, (rd_T34 l i).f1⟩ : S34)).set i.toNat (⟨(rd_T34 (l.set i.toNat (⟨c, (rd_T34 l i).f1⟩ : S34)) i).f0, wrap64 (c + 1)⟩ : S34)) (c + 1 + 1) (i + 1) (by omega) (by simp; omega) (by simpa using hl) (by omega) (by omega)
      refine ⟨r, l', Ev.step (fun k => laws_markRatioS.l0.eq_2 l c i k) (pos hlt (pos h0 (known rfl ?_))), hr⟩
      rw [hwc, hwd, hwi] at *
      exact e
  exact key l.length l 1 0 (by omega) (by omega) hl (by omega) (by omega)
theorem FnExactGainsOf (a : Int) (wa : (Lit.int .i64 a).wf = true) (l : List S30) (g : l.length * 16 ≤ 140737488351232 ∧ ∀ x ∈ l, (Lit.int .i64 x.f0).wf = true ∧ (Lit.int .i64 x.f1).wf = true) : ∃ k, laws_FnExactGainsOf.f k a l = some true := by
  have hl : l.length ≤ 8796093022208 := by omega
  have hto := toRatio_f l hl
  have hlm : (l.map cRatio).length ≤ 8796093022208 := by simpa using hl
  refine Ev.rounds ?_
  by_cases hs : wrap64 (1048576 - (l.length : Int)) < 0
  · exact known (b := laws_szRatioS.f l 1048576) (show _ = some (-1) by unfold laws_szRatioS.f; rw [if_pos hs]) (pos (by omega) (Ev.now _))
  · refine known (b := laws_szRatioS.f l 1048576) (show _ = some (wrap64 (1048576 - (l.length : Int))) by unfold laws_szRatioS.f; rw [if_neg hs]) (neg hs ?_)
    have h20 : l.length ≤ 1048576 := by
      rw [wrap_in (by omega) (by omega)] at hs
      omega
    have hgl : (gainsR a (l.map cRatio)).1.length ≤ 1048576 := by
      unfold gainsR
      split
      · rw [gainsTo_len]
        simp
        omega
      · simp
    obtain ⟨m, hm1, hm2⟩ := markInt_f (gainsR a (l.map cRatio)).1 (by omega)
    obtain ⟨r, l', hm3, hr⟩ := markRatio_f (l.map cRatio) (by simp; omega)
    have heq := eqInt_f (gainsR a (l.map cRatio)).1 (by omega)
    have hj2 : Ev (fun k => laws_FnExactGainsOf.j2 k m (1 + ((gainsR a (l.map cRatio)).1.length : Int)) false) true :=
      Ev.step (fun k => laws_FnExactGainsOf.j2.eq_2 _ _ _ k) (neg (by simp) (Ev.bind hm2 (neg (by omega) (pos rfl (Ev.now _)))))
    have hj1 : Ev (fun k => laws_FnExactGainsOf.j1 k a l (gainsR a (l.map cRatio)).1 (gainsR a (l.map cRatio)).2 (gainsR a (l.map cRatio)).1 false) true := by
      refine Ev.step (fun k => laws_FnExactGainsOf.j1.eq_2 _ _ _ _ _ _ k) (neg (by simp) (Ev.bind hm1 (Ev.bind hm2 (neg (by omega) (pos rfl (Ev.bind hto (Ev.bind (gains_i a _) (Ev.bind heq (pos rfl ?_)))))))))
      rw [bne_self_eq_false]
      exact hj2
    refine Ev.bind hto (Ev.bind (gains_s a _) (Ev.bind hto (Ev.bind (gains_i a _) (Ev.bind heq (pos rfl (Ev.step (fun k => laws_FnExactGainsOf.j0.eq_2 _ _ _ _ _ _ _ _ k) (neg (by simp) (Ev.bind hto (Ev.bind (eqRatio_f _ hlm) (pos rfl (Ev.bind hm3 (neg (by omega) (Ev.bind heq (pos rfl ?_))))))))))))))
    rw [bne_self_eq_false]
    exact hj1

end Go.Proofs.Ytbjhjdkgegilcaa.PureFnExactGainsOf
