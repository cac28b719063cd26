/- Plain laws for FnExactCrossRate (what the printed functions compute). -/
import Derived.Test.YtbjhjdkgegilcaaPFnExactCrossRatex4
import Derived.Test.YtbjhjdkgegilcaaEv
namespace Go.Proofs.Ytbjhjdkgegilcaa.PureFnExactCrossRate
open Go.RowKit Go.Proofs.Ytbjhjdkgegilcaa.PFnExactCrossRate Go.Proofs.YtbjhjdkgegilcaaW.PrintWords Go.Proofs.YtbjhjdkgegilcaaW.PrintLast Go.Proofs.YtbjhjdkgegilcaaW.PrintMore Go.Proofs.YtbjhjdkgegilcaaEv
set_option linter.unusedVariables false
def inB (a b c : Int) : Bool := decide (a ≥ b) && decide (a ≤ c)
theorem inB_iff {a b c : Int} : inB a b c = true ↔ b ≤ a ∧ a ≤ c := by simp [inB]
theorem in_s (a b c : Int) : spec_l1In.f a b c = some (inB a b c) := by
  unfold spec_l1In.f inB
  by_cases h : a ≥ b <;> simp [h]
theorem in_i (a b c : Int) : impl_in.f a b c = some (inB a b c) := in_s a b c
theorem prod_in {a b : Int} (h1 : -1000000000 ≤ a) (h2 : a ≤ 1000000000) (h3 : -1000000000 ≤ b) (h4 : b ≤ 1000000000) : -1000000000000000000 ≤ a * b ∧ a * b ≤ 1000000000000000000 := by
  have h := Int.natAbs_mul a b
  have h5 : a.natAbs * b.natAbs ≤ 1000000000 * 1000000000 := Nat.mul_le_mul (by omega) (by omega)
  omega
theorem gcd_step (a b : Int) : Int.gcd b (Int.tmod a b) = Int.gcd a b := by
  unfold Int.gcd
  rw [Int.natAbs_tmod, Nat.gcd_comm, ← Nat.gcd_rec, Nat.gcd_comm]
theorem tmod_lt (a b : Int) (h : b ≠ 0) : (Int.tmod a b).natAbs < b.natAbs := by
  rw [Int.natAbs_tmod]
  exact Nat.mod_lt _ (by omega)
theorem gcd_s : ∀ (m : Nat) (a b : Int), b.natAbs ≤ m → -9223372036854775807 ≤ a → a ≤ 9223372036854775807 → -9223372036854775807 ≤ b → b ≤ 9223372036854775807 → Ev (fun k => spec_l2Gcd.l0 k a b) (Int.gcd a b) := by
  intro m
  induction m with
  | zero =>
    intro a b hb h1 h2 h3 h4
    obtain rfl : b = 0 := by omega
    refine Ev.step (fun k => spec_l2Gcd.l0.eq_2 a 0 k) (pos rfl (cong (Ev.now _) ?_))
    rw [Int.gcd_zero_right, wrap_in (by omega) (by omega)]
    unfold mx
    split <;> omega
  | succ m ih =>
    intro a b hb h1 h2 h3 h4
    by_cases h0 : b = 0
    · exact ih a b (by omega) h1 h2 h3 h4
    · have ht := tmod_lt a b h0
      have h := ih b (Int.tmod a b) (by omega) h3 h4 (by omega) (by omega)
      rw [gcd_step] at h
      exact Ev.step (fun k => spec_l2Gcd.l0.eq_2 a b k) (neg h0 h)
theorem gcd_i : ∀ (m : Nat) (a b : Int), b.natAbs ≤ m → 0 ≤ a → 0 ≤ b → Ev (fun k => impl_divisor.l0 k a b) (Int.gcd a b) := by
  intro m
  induction m with
  | zero =>
    intro a b hb h1 h3
    obtain rfl : b = 0 := by omega
    refine Ev.step (fun k => impl_divisor.l0.eq_2 a 0 k) (pos rfl (cong (Ev.now _) ?_))
    rw [Int.gcd_zero_right]
    omega
  | succ m ih =>
    intro a b hb h1 h3
    by_cases h0 : b = 0
    · exact ih a b (by omega) h1 h3
    · have ht := tmod_lt a b h0
      have hn : 0 ≤ Int.tmod a b := Int.tmod_nonneg b h1
      have h := ih b (Int.tmod a b) (by omega) h3 hn
      rw [gcd_step] at h
      exact Ev.step (fun k => impl_divisor.l0.eq_2 a b k) (neg h0 h)
theorem abs_i {a : Int} (h : -9223372036854775807 ≤ a) (h2 : a ≤ 9223372036854775807) : impl_absolute.f a = some (a.natAbs : Int) := by
  unfold impl_absolute.f
  by_cases h0 : a < 0
  · rw [if_pos h0, wrap_in (by omega) (by omega)]
    congr 1
    omega
  · rw [if_neg h0]
    congr 1
    omega
def ratioB (n d : Int) : Bool := inB d 1 1000000000 && (inB n (-1000000000) 1000000000 && (Int.gcd n d == 1))
theorem ratio_iff {n d : Int} : ratioB n d = true ↔ (1 ≤ d ∧ d ≤ 1000000000) ∧ (-1000000000 ≤ n ∧ n ≤ 1000000000) ∧ Int.gcd n d = 1 := by
  simp [ratioB, inB_iff]
theorem ratio_s (n d : Int) : Ev (fun k => spec_IsRatio.f k n d) (ratioB n d) := by
  refine known (in_s _ _ _) ?_
  unfold ratioB
  by_cases h1 : inB d 1 1000000000 = true
  · refine pos h1 (known (in_s _ _ _) ?_)
    rw [h1, Bool.true_and]
    by_cases h2 : inB n (-1000000000) 1000000000 = true
    · refine pos h2 ?_
      rw [h2, Bool.true_and]
      have b1 := inB_iff.1 h1
      have b2 := inB_iff.1 h2
      refine Ev.bind (gcd_s d.natAbs n d (Nat.le_refl _) (by omega) (by omega) (by omega) (by omega)) (cong (Ev.now _) ?_)
      rw [Bool.eq_iff_iff, beq_iff_eq, beq_iff_eq]
      omega
    · refine neg h2 (cong (Ev.now _) ?_)
      simp at h2
      simp [h2]
  · refine neg h1 (cong (Ev.now _) ?_)
    simp at h1
    simp [h1]
theorem ratio_i (n d : Int) : Ev (fun k => impl_IsRatio.f k n d) (ratioB n d) := by
  refine known (in_i _ _ _) ?_
  unfold ratioB
  by_cases h1 : inB d 1 1000000000 = true
  · refine pos h1 (known (in_i _ _ _) ?_)
    rw [h1, Bool.true_and]
    by_cases h2 : inB n (-1000000000) 1000000000 = true
    · refine pos h2 ?_
      rw [h2, Bool.true_and]
      have b1 := inB_iff.1 h1
      have b2 := inB_iff.1 h2
      have e : Int.gcd (n.natAbs : Int) d = Int.gcd n d := by unfold Int.gcd; simp
      refine known (abs_i (by omega) (by omega)) (Ev.bind (gcd_i d.natAbs n.natAbs d (Nat.le_refl _) (by omega) (by omega)) (cong (Ev.now _) ?_))
      rw [e, Bool.eq_iff_iff, beq_iff_eq, beq_iff_eq]
      omega
    · refine neg h2 (cong (Ev.now _) ?_)
      simp at h2
      simp [h2]
  · refine neg h1 (cong (Ev.now _) ?_)
    simp at h1
    simp [h1]
def rateB (n d : Int) : Bool := ratioB n d && (decide (n > 0) && decide (n ≤ 1000 * d))
theorem rate_iff {n d : Int} : rateB n d = true ↔ ratioB n d = true ∧ 0 < n ∧ n ≤ 1000 * d := by simp [rateB]
theorem rate_s (n d : Int) : Ev (fun k => spec_IsRate.f k n d) (rateB n d) := by
  refine Ev.bind (ratio_s n d) ?_
  unfold rateB
  by_cases h1 : ratioB n d = true
  · have b := ratio_iff.1 h1
    refine pos h1 ?_
    rw [h1, Bool.true_and]
    by_cases h2 : n > 0
    · refine pos h2 (cong (Ev.now _) ?_)
      rw [wrap_in (by omega) (by omega)]
      simp [h2]
    · refine neg h2 (cong (Ev.now _) ?_)
      simp [h2]
  · refine neg h1 (cong (Ev.now _) ?_)
    simp at h1
    simp [h1]
theorem rate_i (n d : Int) : Ev (fun k => impl_IsRate.f k n d) (rateB n d) := by
  refine Ev.bind (ratio_i n d) ?_
  unfold rateB
  by_cases h1 : ratioB n d = true
  · have b := ratio_iff.1 h1
    refine pos h1 ?_
    rw [h1, Bool.true_and]
    by_cases h2 : n > 0
    · refine pos h2 (cong (Ev.now _) ?_)
      rw [wrap_in (by omega) (by omega)]
      simp [h2]
    · refine neg h2 (cong (Ev.now _) ?_)
      simp [h2]
  · refine neg h1 (cong (Ev.now _) ?_)
    simp at h1
    simp [h1]
def bigB (n : Int) : Bool := inB n (-2000000000000000000) 2000000000000000000
def mk1 (n d : Int) : Int × Int := if ratioB (Int.tdiv n (Int.gcd n d)) (Int.tdiv d (Int.gcd n d)) = true then (Int.tdiv n (Int.gcd n d), Int.tdiv d (Int.gcd n d)) else (0, 0)
def mk0 (n d : Int) : Int × Int := if d < 0 then mk1 (-n) (-d) else mk1 n d
def mkR (n d : Int) : Int × Int := if d = 0 ∨ bigB n = false ∨ bigB d = false then (0, 0) else mk0 n d
theorem tdiv_small {n : Int} {g : Nat} (h1 : -2000000000000000000 ≤ n) (h2 : n ≤ 2000000000000000000) : wrap64 (Int.tdiv n g) = Int.tdiv n g := by
  have h := Int.natAbs_tdiv n g
  have h3 : (Int.tdiv n g).natAbs ≤ n.natAbs := by rw [h]; exact Nat.div_le_self _ _
  exact wrap_in (by omega) (by omega)
theorem mk1_s {n d : Int} (hd : 0 < d) (h1 : -2000000000000000000 ≤ n) (h2 : n ≤ 2000000000000000000) (h4 : d ≤ 2000000000000000000) : Ev (fun k => spec_MakeRatio.j1 k n d) (mk1 n d) := by
  have hg : (Int.gcd n d : Int) ≠ 0 := by
    have := Int.gcd_pos_of_ne_zero_right n (show d ≠ 0 by omega)
    omega
  refine Ev.step (fun k => spec_MakeRatio.j1.eq_2 n d k) (Ev.bind (gcd_s d.natAbs n d (Nat.le_refl _) (by omega) (by omega) (by omega) (by omega)) (neg hg ?_))
  rw [tdiv_small h1 h2, tdiv_small (by omega) h4]
  refine Ev.bind (ratio_s _ _) ?_
  unfold mk1
  by_cases h : ratioB (Int.tdiv n (Int.gcd n d)) (Int.tdiv d (Int.gcd n d)) = true
  · exact pos h (cong (Ev.now _) (by rw [if_pos h]))
  · exact neg h (cong (Ev.now _) (by rw [if_neg h]))
theorem mk_j_s (n d : Int) (x : Bool) (hx : x = false → d ≠ 0 ∧ bigB n = true ∧ bigB d = true) : Ev (fun k => spec_MakeRatio.j0 k n d x) (if x = true then (0, 0) else mk0 n d) := by
  refine Ev.step (fun k => spec_MakeRatio.j0.eq_2 n d x k) ?_
  cases x with
  | true => exact pos rfl (Ev.now _)
  | false =>
    obtain ⟨h0, hn, hd⟩ := hx rfl
    have bn := inB_iff.1 hn
    have bd := inB_iff.1 hd
    refine neg (by simp) ?_
    rw [if_neg (by simp)]
    unfold mk0
    by_cases h : d < 0
    · rw [if_pos h]
      refine pos h ?_
      rw [wrap_in (by omega) (by omega), wrap_in (by omega) (by omega)]
      exact mk1_s (by omega) (by omega) (by omega) (by omega)
    · rw [if_neg h]
      exact neg h (mk1_s (by omega) (by omega) (by omega) (by omega))
theorem mk_s (n d : Int) : Ev (fun k => spec_MakeRatio.f k n d) (mkR n d) := by
  unfold mkR
  by_cases h0 : d = 0
  · refine pos h0 (cong (mk_j_s n d true (by simp)) ?_)
    simp [h0]
  · refine neg h0 (known (in_s _ _ _) ?_)
    show Ev _ (if d = 0 ∨ bigB n = false ∨ bigB d = false then (0, 0) else mk0 n d)
    by_cases hn : bigB n = true
    · refine pos hn (known (in_s _ _ _) (cong (mk_j_s n d _ (fun hx => ⟨h0, hn, ?_⟩)) ?_))
      · simpa [bigB] using hx
      · cases hd : bigB d <;> simp [bigB] at hd hn <;> simp [hd, hn, h0, bigB]
    · refine neg hn (cong (mk_j_s n d true (by simp)) ?_)
      simp at hn
      simp [hn]
theorem mk1_i {n d : Int} (hd : 0 < d) (h1 : -2000000000000000000 ≤ n) (h2 : n ≤ 2000000000000000000) (h4 : d ≤ 2000000000000000000) : Ev (fun k => impl_MakeRatio.j1 k n d) (mk1 n d) := by
  have hg : (Int.gcd n d : Int) ≠ 0 := by
    have := Int.gcd_pos_of_ne_zero_right n (show d ≠ 0 by omega)
    omega
  have e : Int.gcd (n.natAbs : Int) d = Int.gcd n d := by unfold Int.gcd; simp
  have hgi := gcd_i d.natAbs n.natAbs d (Nat.le_refl _) (by omega) (by omega)
  rw [e] at hgi
  refine Ev.step (fun k => impl_MakeRatio.j1.eq_2 n d k) (known (abs_i (by omega) (by omega)) (Ev.bind hgi (neg hg ?_)))
  rw [tdiv_small h1 h2, tdiv_small (by omega) h4]
  refine Ev.bind (ratio_i _ _) ?_
  unfold mk1
  by_cases h : ratioB (Int.tdiv n (Int.gcd n d)) (Int.tdiv d (Int.gcd n d)) = true
  · exact pos h (cong (Ev.now _) (by rw [if_pos h]))
  · exact neg h (cong (Ev.now _) (by rw [if_neg h]))
theorem mk_j_i (n d : Int) (x : Bool) (hx : x = false → d ≠ 0 ∧ bigB n = true ∧ bigB d = true) : Ev (fun k => impl_MakeRatio.j0 k n d x) (if x = true then (0, 0) else mk0 n d) := by
  refine Ev.step (fun k => impl_MakeRatio.j0.eq_2 n d x k) ?_
  cases x with
  | true => exact pos rfl (Ev.now _)
  | false =>
    obtain ⟨h0, hn, hd⟩ := hx rfl
    have bn := inB_iff.1 hn
    have bd := inB_iff.1 hd
    refine neg (by simp) ?_
    rw [if_neg (by simp)]
    unfold mk0
    by_cases h : d < 0
    · rw [if_pos h]
      refine pos h ?_
      rw [wrap_in (by omega) (by omega), wrap_in (by omega) (by omega)]
      exact mk1_i (by omega) (by omega) (by omega) (by omega)
    · rw [if_neg h]
      exact neg h (mk1_i (by omega) (by omega) (by omega) (by omega))
theorem mk_i (n d : Int) : Ev (fun k => impl_MakeRatio.f k n d) (mkR n d) := by
  unfold mkR
  by_cases h0 : d = 0
  · refine pos h0 (cong (mk_j_i n d true (by simp)) ?_)
    simp [h0]
  · refine neg h0 (known (in_i _ _ _) ?_)
    show Ev _ (if d = 0 ∨ bigB n = false ∨ bigB d = false then (0, 0) else mk0 n d)
    by_cases hn : bigB n = true
    · refine pos hn (known (in_i _ _ _) (cong (mk_j_i n d _ (fun hx => ⟨h0, hn, ?_⟩)) ?_))
      · simpa [bigB] using hx
      · cases hd : bigB d <;> simp [bigB] at hd hn <;> simp [hd, hn, h0, bigB]
    · refine neg hn (cong (mk_j_i n d true (by simp)) ?_)
      simp at hn
      simp [hn]
def divR (n d p q : Int) : Int × Int := if ratioB n d = true ∧ ratioB p q = true then mkR (n * q) (d * p) else (0, 0)
theorem div_s (n d p q : Int) : Ev (fun k => spec_DivideRatios.f k n d p q) (divR n d p q) := by
  refine Ev.bind (ratio_s _ _) ?_
  unfold divR
  by_cases h1 : ratioB n d = true
  · refine pos h1 (Ev.bind (ratio_s _ _) ?_)
    by_cases h2 : ratioB p q = true
    · have b1 := ratio_iff.1 h1
      have b2 := ratio_iff.1 h2
      have p1 := prod_in (a := n) (b := q) (by omega) (by omega) (by omega) (by omega)
      have p2 := prod_in (a := d) (b := p) (by omega) (by omega) (by omega) (by omega)
      rw [if_pos ⟨h1, h2⟩, wrap_in (by omega) (by omega), wrap_in (by omega) (by omega)]
      refine pos h2 ?_
      by_cases h3 : p = 0
      · refine pos h3 (cong (Ev.now _) ?_)
        subst h3
        simp [mkR]
      · exact neg h3 (Ev.bind (mk_s _ _) (Ev.now _))
    · exact neg h2 (cong (Ev.now _) (by simp [h2]))
  · exact neg h1 (cong (Ev.now _) (by simp [h1]))
theorem div_i (n d p q : Int) : Ev (fun k => impl_DivideRatios.f k n d p q) (divR n d p q) := by
  refine Ev.bind (ratio_i _ _) ?_
  unfold divR
  by_cases h1 : ratioB n d = true
  · refine pos h1 (Ev.bind (ratio_i _ _) ?_)
    by_cases h2 : ratioB p q = true
    · have b1 := ratio_iff.1 h1
      have b2 := ratio_iff.1 h2
      have p1 := prod_in (a := n) (b := q) (by omega) (by omega) (by omega) (by omega)
      have p2 := prod_in (a := d) (b := p) (by omega) (by omega) (by omega) (by omega)
      rw [if_pos ⟨h1, h2⟩, wrap_in (by omega) (by omega), wrap_in (by omega) (by omega)]
      exact pos h2 (Ev.bind (mk_i _ _) (Ev.now _))
    · exact neg h2 (cong (Ev.now _) (by simp [h2]))
  · exact neg h1 (cong (Ev.now _) (by simp [h1]))
def crossR (n d p q : Int) : Int × Int := if rateB n d = true ∧ rateB p q = true then divR n d p q else (0, 0)
theorem cross_s (n d p q : Int) : Ev (fun k => spec_CrossRate.f k n d p q) (crossR n d p q) := by
  refine Ev.bind (rate_s _ _) ?_
  unfold crossR
  by_cases h1 : rateB n d = true
  · refine pos h1 (Ev.bind (rate_s _ _) ?_)
    by_cases h2 : rateB p q = true
    · rw [if_pos ⟨h1, h2⟩]
      exact pos h2 (Ev.bind (div_s _ _ _ _) (Ev.now _))
    · exact neg h2 (cong (Ev.now _) (by simp [h2]))
  · exact neg h1 (cong (Ev.now _) (by simp [h1]))
theorem cross_i (n d p q : Int) : Ev (fun k => impl_CrossRate.f k n d p q) (crossR n d p q) := by
  refine Ev.bind (rate_i _ _) ?_
  unfold crossR
  by_cases h1 : rateB n d = true
  · refine pos h1 (Ev.bind (rate_i _ _) ?_)
    by_cases h2 : rateB p q = true
    · rw [if_pos ⟨h1, h2⟩]
      exact pos h2 (Ev.bind (div_i _ _ _ _) (Ev.now _))
    · exact neg h2 (cong (Ev.now _) (by simp [h2]))
  · exact neg h1 (cong (Ev.now _) (by simp [h1]))

theorem eq_ratio (a b : Int) : laws_eqRatio.f a b a b = some true := by simp [laws_eqRatio.f]
theorem FnExactCrossRate (n d : Int) (g : (Lit.int .i64 n).wf = true ∧ (Lit.int .i64 d).wf = true) (p q : Int) (g2 : (Lit.int .i64 p).wf = true ∧ (Lit.int .i64 q).wf = true) : ∃ k, laws_FnExactCrossRate.f k n d p q = some true :=
  Ev.rounds (known rfl (known rfl (Ev.bind (cross_s n d p q) (known rfl (known rfl (Ev.bind (cross_i n d p q) (known (eq_ratio _ _) (pos rfl (Ev.now _)))))))))

end Go.Proofs.Ytbjhjdkgegilcaa.PureFnExactCrossRate
