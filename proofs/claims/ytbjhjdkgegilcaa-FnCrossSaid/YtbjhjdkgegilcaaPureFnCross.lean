/- Plain laws for FnCross (what the printed functions compute). -/
import Derived.Test.YtbjhjdkgegilcaaPFnCrossx6
import Derived.Test.YtbjhjdkgegilcaaEv
namespace Go.Proofs.Ytbjhjdkgegilcaa.PureFnCross
open Go.RowKit Go.Proofs.Ytbjhjdkgegilcaa.PFnCross Go.Proofs.YtbjhjdkgegilcaaW.PrintWords Go.Proofs.YtbjhjdkgegilcaaW.PrintLast Go.Proofs.YtbjhjdkgegilcaaW.PrintMore Go.Proofs.YtbjhjdkgegilcaaEv
set_option linter.unusedVariables false
def inB (a b c : Int) : Bool := decide (a ≥ b) && decide (a ≤ c)
theorem inB_iff {a b c : Int} : inB a b c = true ↔ b ≤ a ∧ a ≤ c := by simp [inB]
theorem in_s (a b c : Int) : spec_l1In.f a b c = some (inB a b c) := by
  unfold spec_l1In.f inB
  by_cases h : a ≥ b <;> simp [h]
theorem in_i (a b c : Int) : impl_in.f a b c = some (inB a b c) := in_s a b c
theorem prod_in {a b : Int} (h1 : -1000000000 ≤ a) (h2 : a ≤ 1000000000) (h3 : -1000000000 ≤ b) (h4 : b ≤ 1000000000) : -1000000000000000000 ≤ a * b ∧ a * b ≤ 1000000000000000000 := by
  have h := Int.natAbs_mul a b
  have h5 : a.natAbs * b.natAbs ≤ 1000000000 * 1000000000 := Nat.mul_le_mul (by omega) (by omega)
  omega
theorem gcd_step (a b : Int) : Int.gcd b (Int.tmod a b) = Int.gcd a b := by
  unfold Int.gcd
  rw [Int.natAbs_tmod, Nat.gcd_comm, ← Nat.gcd_rec, Nat.gcd_comm]
theorem tmod_lt (a b : Int) (h : b ≠ 0) : (Int.tmod a b).natAbs < b.natAbs := by
  rw [Int.natAbs_tmod]
  exact Nat.mod_lt _ (by omega)
theorem gcd_s : ∀ (m : Nat) (a b : Int), b.natAbs ≤ m → -9223372036854775807 ≤ a → a ≤ 9223372036854775807 → -9223372036854775807 ≤ b → b ≤ 9223372036854775807 → Ev (fun k => spec_l2Gcd.l0 k a b) (Int.gcd a b) := by
  intro m
  induction m with
  | zero =>
    intro a b hb h1 h2 h3 h4
    obtain rfl : b = 0 := by omega
    refine Ev.step (fun k => spec_l2Gcd.l0.eq_2 a 0 k) (pos rfl (cong (Ev.now _) ?_))
    rw [Int.gcd_zero_right, wrap_in (by omega) (by omega)]
    unfold mx
    split <;> omega
  | succ m ih =>
    intro a b hb h1 h2 h3 h4
    by_cases h0 : b = 0
    · exact ih a b (by omega) h1 h2 h3 h4
    · have ht := tmod_lt a b h0
      have h := ih b (Int.tmod a b) (by omega) h3 h4 (by omega) (by omega)
      rw [gcd_step] at h
      exact Ev.step (fun k => spec_l2Gcd.l0.eq_2 a b k) (neg h0 h)
theorem gcd_i : ∀ (m : Nat) (a b : Int), b.natAbs ≤ m → 0 ≤ a → 0 ≤ b → Ev (fun k => impl_divisor.l0 k a b) (Int.gcd a b) := by
  intro m
  induction m with
  | zero =>
    intro a b hb h1 h3
    obtain rfl : b = 0 := by omega
    refine Ev.step (fun k => impl_divisor.l0.eq_2 a 0 k) (pos rfl (cong (Ev.now _) ?_))
    rw [Int.gcd_zero_right]
    omega
  | succ m ih =>
    intro a b hb h1 h3
    by_cases h0 : b = 0
    · exact ih a b (by omega) h1 h3
    · have ht := tmod_lt a b h0
      have hn : 0 ≤ Int.tmod a b := Int.tmod_nonneg b h1
      have h := ih b (Int.tmod a b) (by omega) h3 hn
      rw [gcd_step] at h
      exact Ev.step (fun k => impl_divisor.l0.eq_2 a b k) (neg h0 h)
theorem abs_i {a : Int} (h : -9223372036854775807 ≤ a) (h2 : a ≤ 9223372036854775807) : impl_absolute.f a = some (a.natAbs : Int) := by
  unfold impl_absolute.f
  by_cases h0 : a < 0
  · rw [if_pos h0, wrap_in (by omega) (by omega)]
    congr 1
    omega
  · rw [if_neg h0]
    congr 1
    omega
def ratioB (n d : Int) : Bool := inB d 1 1000000000 && (inB n (-1000000000) 1000000000 && (Int.gcd n d == 1))
theorem ratio_iff {n d : Int} : ratioB n d = true ↔ (1 ≤ d ∧ d ≤ 1000000000) ∧ (-1000000000 ≤ n ∧ n ≤ 1000000000) ∧ Int.gcd n d = 1 := by
  simp [ratioB, inB_iff]
theorem ratio_s (n d : Int) : Ev (fun k => spec_IsRatio.f k n d) (ratioB n d) := by
  refine known (in_s _ _ _) ?_
  unfold ratioB
  by_cases h1 : inB d 1 1000000000 = true
  · refine pos h1 (known (in_s _ _ _) ?_)
    rw [h1, Bool.true_and]
    by_cases h2 : inB n (-1000000000) 1000000000 = true
    · refine pos h2 ?_
      rw [h2, Bool.true_and]
      have b1 := inB_iff.1 h1
      have b2 := inB_iff.1 h2
      refine Ev.bind (gcd_s d.natAbs n d (Nat.le_refl _) (by omega) (by omega) (by omega) (by omega)) (cong (Ev.now _) ?_)
      rw [Bool.eq_iff_iff, beq_iff_eq, beq_iff_eq]
      omega
    · refine neg h2 (cong (Ev.now _) ?_)
      simp at h2
      simp [h2]
  · refine neg h1 (cong (Ev.now _) ?_)
    simp at h1
    simp [h1]
theorem ratio_i (n d : Int) : Ev (fun k => impl_IsRatio.f k n d) (ratioB n d) := by
  refine known (in_i _ _ _) ?_
  unfold ratioB
  by_cases h1 : inB d 1 1000000000 = true
  · refine pos h1 (known (in_i _ _ _) ?_)
    rw [h1, Bool.true_and]
    by_cases h2 : inB n (-1000000000) 1000000000 = true
    · refine pos h2 ?_
      rw [h2, Bool.true_and]
      have b1 := inB_iff.1 h1
      have b2 := inB_iff.1 h2
      have e : Int.gcd (n.natAbs : Int) d = Int.gcd n d := by unfold Int.gcd; simp
      refine known (abs_i (by omega) (by omega)) (Ev.bind (gcd_i d.natAbs n.natAbs d (Nat.le_refl _) (by omega) (by omega)) (cong (Ev.now _) ?_))
      rw [e, Bool.eq_iff_iff, beq_iff_eq, beq_iff_eq]
      omega
    · refine neg h2 (cong (Ev.now _) ?_)
      simp at h2
      simp [h2]
  · refine neg h1 (cong (Ev.now _) ?_)
    simp at h1
    simp [h1]
def rateB (n d : Int) : Bool := ratioB n d && (decide (n > 0) && decide (n ≤ 1000 * d))
theorem rate_iff {n d : Int} : rateB n d = true ↔ ratioB n d = true ∧ 0 < n ∧ n ≤ 1000 * d := by simp [rateB]
theorem rate_s (n d : Int) : Ev (fun k => spec_IsRate.f k n d) (rateB n d) := by
  refine Ev.bind (ratio_s n d) ?_
  unfold rateB
  by_cases h1 : ratioB n d = true
  · have b := ratio_iff.1 h1
    refine pos h1 ?_
    rw [h1, Bool.true_and]
    by_cases h2 : n > 0
    · refine pos h2 (cong (Ev.now _) ?_)
      rw [wrap_in (by omega) (by omega)]
      simp [h2]
    · refine neg h2 (cong (Ev.now _) ?_)
      simp [h2]
  · refine neg h1 (cong (Ev.now _) ?_)
    simp at h1
    simp [h1]
theorem rate_i (n d : Int) : Ev (fun k => impl_IsRate.f k n d) (rateB n d) := by
  refine Ev.bind (ratio_i n d) ?_
  unfold rateB
  by_cases h1 : ratioB n d = true
  · have b := ratio_iff.1 h1
    refine pos h1 ?_
    rw [h1, Bool.true_and]
    by_cases h2 : n > 0
    · refine pos h2 (cong (Ev.now _) ?_)
      rw [wrap_in (by omega) (by omega)]
      simp [h2]
    · refine neg h2 (cong (Ev.now _) ?_)
      simp [h2]
  · refine neg h1 (cong (Ev.now _) ?_)
    simp at h1
    simp [h1]
def bigB (n : Int) : Bool := inB n (-2000000000000000000) 2000000000000000000
def mk1 (n d : Int) : Int × Int := if ratioB (Int.tdiv n (Int.gcd n d)) (Int.tdiv d (Int.gcd n d)) = true then (Int.tdiv n (Int.gcd n d), Int.tdiv d (Int.gcd n d)) else (0, 0)
def mk0 (n d : Int) : Int × Int := if d < 0 then mk1 (-n) (-d) else mk1 n d
def mkR (n d : Int) : Int × Int := if d = 0 ∨ bigB n = false ∨ bigB d = false then (0, 0) else mk0 n d
theorem tdiv_small {n : Int} {g : Nat} (h1 : -2000000000000000000 ≤ n) (h2 : n ≤ 2000000000000000000) : wrap64 (Int.tdiv n g) = Int.tdiv n g := by
  have h := Int.natAbs_tdiv n g
  have h3 : (Int.tdiv n g).natAbs ≤ n.natAbs := by rw [h]; exact Nat.div_le_self _ _
  exact wrap_in (by omega) (by omega)
theorem mk1_s {n d : Int} (hd : 0 < d) (h1 : -2000000000000000000 ≤ n) (h2 : n ≤ 2000000000000000000) (h4 : d ≤ 2000000000000000000) : Ev (fun k => spec_MakeRatio.j1 k n d) (mk1 n d) := by
  have hg : (Int.gcd n d : Int) ≠ 0 := by
    have := Int.gcd_pos_of_ne_zero_right n (show d ≠ 0 by omega)
    omega
  refine Ev.step (fun k => spec_MakeRatio.j1.eq_2 n d k) (Ev.bind (gcd_s d.natAbs n d (Nat.le_refl _) (by omega) (by omega) (by omega) (by omega)) (neg hg ?_))
  rw [tdiv_small h1 h2, tdiv_small (by omega) h4]
  refine Ev.bind (ratio_s _ _) ?_
  unfold mk1
  by_cases h : ratioB (Int.tdiv n (Int.gcd n d)) (Int.tdiv d (Int.gcd n d)) = true
  · exact pos h (cong (Ev.now _) (by rw [if_pos h]))
  · exact neg h (cong (Ev.now _) (by rw [if_neg h]))
theorem mk_j_s (n d : Int) (x : Bool) (hx : x = false → d ≠ 0 ∧ bigB n = true ∧ bigB d = true) : Ev (fun k => spec_MakeRatio.j0 k n d x) (if x = true then (0, 0) else mk0 n d) := by
  refine Ev.step (fun k => spec_MakeRatio.j0.eq_2 n d x k) ?_
  cases x with
  | true => exact pos rfl (Ev.now _)
  | false =>
    obtain ⟨h0, hn, hd⟩ := hx rfl
    have bn := inB_iff.1 hn
    have bd := inB_iff.1 hd
    refine neg (by simp) ?_
    rw [if_neg (by simp)]
    unfold mk0
    by_cases h : d < 0
    · rw [if_pos h]
      refine pos h ?_
      rw [wrap_in (by omega) (by omega), wrap_in (by omega) (by omega)]
      exact mk1_s (by omega) (by omega) (by omega) (by omega)
    · rw [if_neg h]
      exact neg h (mk1_s (by omega) (by omega) (by omega) (by omega))
theorem mk_s (n d : Int) : Ev (fun k => spec_MakeRatio.f k n d) (mkR n d) := by
  unfold mkR
  by_cases h0 : d = 0
  · refine pos h0 (cong (mk_j_s n d true (by simp)) ?_)
    simp [h0]
  · refine neg h0 (known (in_s _ _ _) ?_)
    show Ev _ (if d = 0 ∨ bigB n = false ∨ bigB d = false then (0, 0) else mk0 n d)
    by_cases hn : bigB n = true
    · refine pos hn (known (in_s _ _ _) (cong (mk_j_s n d _ (fun hx => ⟨h0, hn, ?_⟩)) ?_))
      · simpa [bigB] using hx
      · cases hd : bigB d <;> simp [bigB] at hd hn <;> simp [hd, hn, h0, bigB]
    · refine neg hn (cong (mk_j_s n d true (by simp)) ?_)
      simp at hn
      simp [hn]
theorem mk1_i {n d : Int} (hd : 0 < d) (h1 : -2000000000000000000 ≤ n) (h2 : n ≤ 2000000000000000000) (h4 : d ≤ 2000000000000000000) : Ev (fun k => impl_MakeRatio.j1 k n d) (mk1 n d) := by
  have hg : (Int.gcd n d : Int) ≠ 0 := by
    have := Int.gcd_pos_of_ne_zero_right n (show d ≠ 0 by omega)
    omega
  have e : Int.gcd (n.natAbs : Int) d = Int.gcd n d := by unfold Int.gcd; simp
  have hgi := gcd_i d.natAbs n.natAbs d (Nat.le_refl _) (by omega) (by omega)
  rw [e] at hgi
  refine Ev.step (fun k => impl_MakeRatio.j1.eq_2 n d k) (known (abs_i (by omega) (by omega)) (Ev.bind hgi (neg hg ?_)))
  rw [tdiv_small h1 h2, tdiv_small (by omega) h4]
  refine Ev.bind (ratio_i _ _) ?_
  unfold mk1
  by_cases h : ratioB (Int.tdiv n (Int.gcd n d)) (Int.tdiv d (Int.gcd n d)) = true
  · exact pos h (cong (Ev.now _) (by rw [if_pos h]))
  · exact neg h (cong (Ev.now _) (by rw [if_neg h]))
theorem mk_j_i (n d : Int) (x : Bool) (hx : x = false → d ≠ 0 ∧ bigB n = true ∧ bigB d = true) : Ev (fun k => impl_MakeRatio.j0 k n d x) (if x = true then (0, 0) else mk0 n d) := by
  refine Ev.step (fun k => impl_MakeRatio.j0.eq_2 n d x k) ?_
  cases x with
  | true => exact pos rfl (Ev.now _)
  | false =>
    obtain ⟨h0, hn, hd⟩ := hx rfl
    have bn := inB_iff.1 hn
    have bd := inB_iff.1 hd
    refine neg (by simp) ?_
    rw [if_neg (by simp)]
    unfold mk0
    by_cases h : d < 0
    · rw [if_pos h]
      refine pos h ?_
      rw [wrap_in (by omega) (by omega), wrap_in (by omega) (by omega)]
      exact mk1_i (by omega) (by omega) (by omega) (by omega)
    · rw [if_neg h]
      exact neg h (mk1_i (by omega) (by omega) (by omega) (by omega))
theorem mk_i (n d : Int) : Ev (fun k => impl_MakeRatio.f k n d) (mkR n d) := by
  unfold mkR
  by_cases h0 : d = 0
  · refine pos h0 (cong (mk_j_i n d true (by simp)) ?_)
    simp [h0]
  · refine neg h0 (known (in_i _ _ _) ?_)
    show Ev _ (if d = 0 ∨ bigB n = false ∨ bigB d = false then (0, 0) else mk0 n d)
    by_cases hn : bigB n = true
    · refine pos hn (known (in_i _ _ _) (cong (mk_j_i n d _ (fun hx => ⟨h0, hn, ?_⟩)) ?_))
      · simpa [bigB] using hx
      · cases hd : bigB d <;> simp [bigB] at hd hn <;> simp [hd, hn, h0, bigB]
    · refine neg hn (cong (mk_j_i n d true (by simp)) ?_)
      simp at hn
      simp [hn]
def divR (n d p q : Int) : Int × Int := if ratioB n d = true ∧ ratioB p q = true then mkR (n * q) (d * p) else (0, 0)
theorem div_s (n d p q : Int) : Ev (fun k => spec_DivideRatios.f k n d p q) (divR n d p q) := by
  refine Ev.bind (ratio_s _ _) ?_
  unfold divR
  by_cases h1 : ratioB n d = true
  · refine pos h1 (Ev.bind (ratio_s _ _) ?_)
    by_cases h2 : ratioB p q = true
    · have b1 := ratio_iff.1 h1
      have b2 := ratio_iff.1 h2
      have p1 := prod_in (a := n) (b := q) (by omega) (by omega) (by omega) (by omega)
      have p2 := prod_in (a := d) (b := p) (by omega) (by omega) (by omega) (by omega)
      rw [if_pos ⟨h1, h2⟩, wrap_in (by omega) (by omega), wrap_in (by omega) (by omega)]
      refine pos h2 ?_
      by_cases h3 : p = 0
      · refine pos h3 (cong (Ev.now _) ?_)
        subst h3
        simp [mkR]
      · exact neg h3 (Ev.bind (mk_s _ _) (Ev.now _))
    · exact neg h2 (cong (Ev.now _) (by simp [h2]))
  · exact neg h1 (cong (Ev.now _) (by simp [h1]))
theorem div_i (n d p q : Int) : Ev (fun k => impl_DivideRatios.f k n d p q) (divR n d p q) := by
  refine Ev.bind (ratio_i _ _) ?_
  unfold divR
  by_cases h1 : ratioB n d = true
  · refine pos h1 (Ev.bind (ratio_i _ _) ?_)
    by_cases h2 : ratioB p q = true
    · have b1 := ratio_iff.1 h1
      have b2 := ratio_iff.1 h2
      have p1 := prod_in (a := n) (b := q) (by omega) (by omega) (by omega) (by omega)
      have p2 := prod_in (a := d) (b := p) (by omega) (by omega) (by omega) (by omega)
      rw [if_pos ⟨h1, h2⟩, wrap_in (by omega) (by omega), wrap_in (by omega) (by omega)]
      exact pos h2 (Ev.bind (mk_i _ _) (Ev.now _))
    · exact neg h2 (cong (Ev.now _) (by simp [h2]))
  · exact neg h1 (cong (Ev.now _) (by simp [h1]))
def crossR (n d p q : Int) : Int × Int := if rateB n d = true ∧ rateB p q = true then divR n d p q else (0, 0)
theorem cross_s (n d p q : Int) : Ev (fun k => spec_CrossRate.f k n d p q) (crossR n d p q) := by
  refine Ev.bind (rate_s _ _) ?_
  unfold crossR
  by_cases h1 : rateB n d = true
  · refine pos h1 (Ev.bind (rate_s _ _) ?_)
    by_cases h2 : rateB p q = true
    · rw [if_pos ⟨h1, h2⟩]
      exact pos h2 (Ev.bind (div_s _ _ _ _) (Ev.now _))
    · exact neg h2 (cong (Ev.now _) (by simp [h2]))
  · exact neg h1 (cong (Ev.now _) (by simp [h1]))
theorem cross_i (n d p q : Int) : Ev (fun k => impl_CrossRate.f k n d p q) (crossR n d p q) := by
  refine Ev.bind (rate_i _ _) ?_
  unfold crossR
  by_cases h1 : rateB n d = true
  · refine pos h1 (Ev.bind (rate_i _ _) ?_)
    by_cases h2 : rateB p q = true
    · rw [if_pos ⟨h1, h2⟩]
      exact pos h2 (Ev.bind (div_i _ _ _ _) (Ev.now _))
    · exact neg h2 (cong (Ev.now _) (by simp [h2]))
  · exact neg h1 (cong (Ev.now _) (by simp [h1]))

theorem and255 (n : Int) : Go.bits .and .i64 n 255 = n % 256 := by
  have h255 : (BitVec.ofInt 64 255).toNat = 2 ^ 8 - 1 := by decide
  have key : (BitVec.ofInt 64 n &&& BitVec.ofInt 64 255).toNat = (n % ((2 ^ 64 : Nat) : Int)).toNat % 2 ^ 8 := by
    rw [BitVec.toNat_and, BitVec.toNat_ofInt, h255, Nat.and_two_pow_sub_one_eq_mod]
  show IntKind.i64.wrap ((BitVec.ofInt 64 n &&& BitVec.ofInt 64 255).toNat : Nat) = n % 256
  rw [key, IntKind.wrap_i64]
  omega
theorem byte_ok (l : List Int) (i h : Int) (hl : l.length ≤ 140737488351232) (h0 : 0 ≤ i) : ∃ v i' h', spec_l1Byte.f l i h = some (v, i', h') ∧ 0 ≤ i' ∧ 0 ≤ v ∧ v ≤ 255 := by
  unfold spec_l1Byte.f
  by_cases hlt : i < (l.length : Int)
  · rw [if_pos hlt, if_pos h0, and255]
    refine ⟨_, _, _, rfl, ?_, by omega, by omega⟩
    rw [wrap_inc h0 hlt (by omega)]
    omega
  · rw [if_neg hlt, and255]
    exact ⟨_, _, _, rfl, h0, by omega, by omega⟩
theorem below_ok (l : List Int) (i h n : Int) (hl : l.length ≤ 140737488351232) (h0 : 0 ≤ i) : ∃ v i' h', spec_l1Below.f l i h n = some (v, i', h') ∧ 0 ≤ i' ∧ 0 ≤ v ∧ (0 < n → v < n) := by
  unfold spec_l1Below.f
  by_cases h1 : n ≤ 0
  · rw [if_pos h1]
    exact ⟨_, _, _, rfl, h0, by omega, by omega⟩
  · rw [if_neg h1]
    by_cases h2 : n ≤ 256
    · rw [if_pos h2]
      obtain ⟨v, i1, h', e, g0, g1, g2⟩ := byte_ok l i h hl h0
      rw [e]
      simp only [Option.bind_some]
      rw [if_neg (by omega)]
      refine ⟨_, _, _, rfl, g0, Int.tmod_nonneg n g1, fun _ => Int.tmod_lt_of_pos v (by omega)⟩
    · rw [if_neg h2]
      obtain ⟨v1, i1, k1, e1, g1, p1, q1⟩ := byte_ok l i h hl h0
      rw [e1]
      simp only [Option.bind_some]
      obtain ⟨v2, i2, k2, e2, g2, p2, q2⟩ := byte_ok l i1 k1 hl g1
      rw [e2]
      simp only [Option.bind_some]
      obtain ⟨v3, i3, k3, e3, g3, p3, q3⟩ := byte_ok l i2 k2 hl g2
      rw [e3]
      simp only [Option.bind_some]
      obtain ⟨v4, i4, k4, e4, g4, p4, q4⟩ := byte_ok l i3 k3 hl g3
      rw [e4]
      simp only [Option.bind_some]
      rw [if_neg (by omega)]
      refine ⟨_, _, _, rfl, g4, Int.tmod_nonneg n ?_, fun _ => Int.tmod_lt_of_pos _ (by omega)⟩
      rw [wrap_in (i := v1 * 16777216) (by omega) (by omega), wrap_in (i := v2 * 65536) (by omega) (by omega), wrap_in (i := v3 * 256) (by omega) (by omega), wrap_in (i := v1 * 16777216 + v2 * 65536) (by omega) (by omega), wrap_in (i := v1 * 16777216 + v2 * 65536 + v3 * 256) (by omega) (by omega), wrap_in (by omega) (by omega)]
      omega
theorem new_ok (l : List Int) (hl : l.length ≤ 140737488351232) : ∃ h, Ev (fun k => spec_l1New.f k l) (l, 0, h) := by
  have key : ∀ (d : Nat) (x i : Int), 0 ≤ i → (l.length : Int) - i ≤ d → ∃ h, Ev (fun k => spec_l1New.l0 k l x i) (l, 0, h) := by
    intro d
    induction d with
    | zero =>
      intro x i h0 hd
      exact ⟨x, Ev.step (fun k => spec_l1New.l0.eq_2 l x i k) (neg (by omega) (Ev.now _))⟩
    | succ d ih =>
      intro x i h0 hd
      by_cases hlt : i < (l.length : Int)
      · by_cases h4 : i < 4000
        · obtain ⟨h, hh⟩ := ih (Go.bits .and .i64 (wrap64 ((wrap64 ((wrap64 (x * 131)) + (wrap64 (rd l i)))) + 7)) 1073741823) (i + 1) (by omega) (by omega)
          rw [← wrap_inc h0 hlt (by omega)] at hh
          exact ⟨h, Ev.step (fun k => spec_l1New.l0.eq_2 l x i k) (pos hlt (pos h4 (pos h0 hh)))⟩
        · exact ⟨x, Ev.step (fun k => spec_l1New.l0.eq_2 l x i k) (pos hlt (neg h4 (Ev.now _)))⟩
      · exact ⟨x, Ev.step (fun k => spec_l1New.l0.eq_2 l x i k) (neg hlt (Ev.now _))⟩
  exact key l.length _ 0 (by omega) (by omega)
theorem once_ok (l : List Int) (i h n : Int) (hl : l.length ≤ 140737488351232) (h0 : 0 ≤ i) : ∃ v i' h', spec_l1Once.f l i h n = some (v, i', h') ∧ 0 ≤ i' := by
  unfold spec_l1Once.f
  obtain ⟨v, i1, h1, e, g0, _⟩ := below_ok l i h n hl h0
  rw [e]
  exact ⟨_, _, _, rfl, g0⟩
theorem pickint_ok (l : List Int) (i h : Int) (xs : List Int) (hx : 0 < xs.length) (hl : l.length ≤ 140737488351232) (h0 : 0 ≤ i) : ∃ v i' h', spec_l1PickInt.f l i h xs = some (v, i', h') ∧ 0 ≤ i' ∧ v ∈ xs := by
  unfold spec_l1PickInt.f
  obtain ⟨v, i1, h1, e, g0, g1, g2⟩ := below_ok l i h xs.length hl h0
  rw [e]
  simp only [Option.bind_some]
  rw [if_pos g1, if_pos (g2 (by omega))]
  exact ⟨_, _, _, rfl, g0, getD_mem xs 0 _ (by have := g2 (by omega); omega)⟩
theorem odd_ok (l : List Int) (i h : Int) (hl : l.length ≤ 140737488351232) (h0 : 0 ≤ i) : ∃ v i' h', spec_l1Odd.f l i h = some (v, i', h') ∧ 0 ≤ i' ∧ -9223372036854775808 ≤ v ∧ v ≤ 9223372036854775807 := by
  unfold spec_l1Odd.f
  obtain ⟨v, i1, h1, e, g0, g1⟩ := pickint_ok l i h [0, 1, (-1), 2, 1000000, 1000001, (-1000001), 1000000000, 1000000001, 9223372036854775807, (-9223372036854775808)] (by simp) hl h0
  rw [e]
  refine ⟨_, _, _, rfl, g0, ?_⟩
  simp only [List.mem_cons, List.not_mem_nil, or_false] at g1
  omega
theorem any_ok (l : List Int) (i h : Int) (hl : l.length ≤ 140737488351232) (h0 : 0 ≤ i) : ∃ n d i' h', Ev (fun k => spec_l2Any.f k l i h) (n, d, i', h') ∧ 0 ≤ i' := by
  obtain ⟨v, i1, h1, e, g0, _⟩ := below_ok l i h 12 hl h0
  by_cases c0 : v = 0
  · exact ⟨_, _, _, _, known e (pos c0 (Ev.now _)), g0⟩
  · by_cases c1 : v = 1
    · obtain ⟨v2, i2, h2, e2, g2, _⟩ := odd_ok l i1 h1 hl g0
      obtain ⟨v3, i3, h3, e3, g3, _⟩ := pickint_ok l i2 h2 [1, 2, 1000000000, (-1), 4] (by simp) hl g2
      exact ⟨_, _, _, _, known e (neg c0 (pos c1 (known e2 (known e3 (Ev.now _))))), g3⟩
    · by_cases c2 : v = 2
      · obtain ⟨v2, i2, h2, e2, g2, _⟩ := below_ok l i1 h1 1000000000 hl g0
        obtain ⟨v3, i3, h3, e3, g3, _⟩ := below_ok l i2 h2 1000000000 hl g2
        exact ⟨_, _, _, _, known e (neg c0 (neg c1 (pos c2 (known e2 (known e3 (Ev.bind (mk_s _ _) (Ev.now _))))))), g3⟩
      · obtain ⟨v2, i2, h2, e2, g2, _⟩ := below_ok l i1 h1 41 hl g0
        obtain ⟨v3, i3, h3, e3, g3, _⟩ := below_ok l i2 h2 12 hl g2
        exact ⟨_, _, _, _, known e (neg c0 (neg c1 (neg c2 (known e2 (known e3 (Ev.bind (mk_s _ _) (Ev.now _))))))), g3⟩
theorem rate39_ok (l : List Int) (i h : Int) (hl : l.length ≤ 140737488351232) (h0 : 0 ≤ i) : ∃ n d i' h', Ev (fun k => spec_l39Rate.f k l i h) (n, d, i', h') ∧ 0 ≤ i' := by
  obtain ⟨v, i1, h1, e, g0⟩ := once_ok l i h 16 hl h0
  cases v with
  | true =>
    obtain ⟨n, d, i2, h2, e2, g2⟩ := any_ok l i1 h1 hl g0
    exact ⟨_, _, _, _, known e (pos rfl (Ev.bind e2 (Ev.now _))), g2⟩
  | false =>
    obtain ⟨v2, i2, h2, e2, g2, _⟩ := below_ok l i1 h1 100 hl g0
    exact ⟨_, _, _, _, known e (neg (by simp) (known e2 (Ev.bind (mk_s _ _) (Ev.now _)))), g2⟩
theorem drawcross_ok (l : List Int) (hl : l.length ≤ 140737488351232) : ∃ n d p q, Ev (fun k => spec_DrawCrossRate.f k l) (n, d, p, q) := by
  obtain ⟨h, e⟩ := new_ok l hl
  obtain ⟨n, d, i1, h1, e1, g1⟩ := rate39_ok l 0 h hl (by omega)
  obtain ⟨p, q, i2, h2, e2, g2⟩ := rate39_ok l i1 h1 hl g1
  exact ⟨_, _, _, _, Ev.bind e (Ev.bind e1 (Ev.bind e2 (Ev.now _)))⟩

theorem gcd_self_one {a b : Int} {g : Nat} (hg : Int.gcd a b = g) (h : 0 < g) : Int.gcd (Int.tdiv a g) (Int.tdiv b g) = 1 := by
  subst hg
  have e1 : Int.tdiv a (Int.gcd a b) = a / (Int.gcd a b) := Int.tdiv_eq_ediv_of_dvd (Int.gcd_dvd_left a b)
  have e2 : Int.tdiv b (Int.gcd a b) = b / (Int.gcd a b) := Int.tdiv_eq_ediv_of_dvd (Int.gcd_dvd_right a b)
  rw [e1, e2]
  exact Int.gcd_ediv_gcd_ediv_gcd h
/-- A fraction in lowest terms, expanded, is found again. -/
theorem mk_low {a b t : Int} (hr : ratioB a b = true) (ht : 0 < t) (h1 : a * t ≤ 2000000000000000000) (h0 : -2000000000000000000 ≤ a * t) (h2 : b * t ≤ 2000000000000000000) : mkR (a * t) (b * t) = (a, b) := by
  have q := ratio_iff.1 hr
  have hbt : 0 < b * t := Int.mul_pos (by omega) ht
  have hg : Int.gcd (a * t) (b * t) = t.natAbs := by rw [Int.gcd_mul_right, q.2.2, Nat.one_mul]
  have ht' : (t.natAbs : Int) = t := by omega
  unfold mkR
  rw [if_neg]
  · unfold mk0 mk1
    rw [if_neg (by omega), hg, ht', Int.mul_tdiv_cancel _ (by omega), Int.mul_tdiv_cancel _ (by omega), if_pos hr]
  · rintro (h | h | h)
    · omega
    · rw [show bigB (a * t) = true from inB_iff.2 (by omega)] at h
      exact absurd h (by simp)
    · rw [show bigB (b * t) = true from inB_iff.2 (by omega)] at h
      exact absurd h (by simp)
/-- What a fraction is cancelled to. -/
theorem mk_facts {n d x y : Int} (hd : 0 < d) (hn : 0 < n) (h : mkR n d = (x, y)) (hr : ratioB x y = true) : ∃ g : Int, 0 < g ∧ n = x * g ∧ d = y * g := by
  unfold mkR at h
  split at h
  · injection h with h1 h2
    subst h1; subst h2
    exact absurd hr (by decide)
  · unfold mk0 at h
    rw [if_neg (by omega)] at h
    unfold mk1 at h
    split at h
    · injection h with h1 h2
      have hg : (0 : Int) < Int.gcd n d := by
        have := Int.gcd_pos_of_ne_zero_right n (show d ≠ 0 by omega)
        omega
      refine ⟨Int.gcd n d, hg, ?_, ?_⟩
      · rw [← h1, Int.tdiv_mul_cancel (Int.gcd_dvd_left n d)]
      · rw [← h2, Int.tdiv_mul_cancel (Int.gcd_dvd_right n d)]
    · injection h with h1 h2
      subst h1; subst h2
      exact absurd hr (by decide)
def mulR (n d p q : Int) : Int × Int := if ratioB n d = true ∧ ratioB p q = true then mkR (n * p) (d * q) else (0, 0)
theorem mul_s (n d p q : Int) : Ev (fun k => spec_MultiplyRatios.f k n d p q) (mulR n d p q) := by
  refine Ev.bind (ratio_s _ _) ?_
  unfold mulR
  by_cases h1 : ratioB n d = true
  · refine pos h1 (Ev.bind (ratio_s _ _) ?_)
    by_cases h2 : ratioB p q = true
    · have b1 := ratio_iff.1 h1
      have b2 := ratio_iff.1 h2
      have p1 := prod_in (a := n) (b := p) (by omega) (by omega) (by omega) (by omega)
      have p2 := prod_in (a := d) (b := q) (by omega) (by omega) (by omega) (by omega)
      rw [if_pos ⟨h1, h2⟩, wrap_in (by omega) (by omega), wrap_in (by omega) (by omega)]
      exact pos h2 (Ev.bind (mk_s _ _) (Ev.now _))
    · exact neg h2 (cong (Ev.now _) (by simp [h2]))
  · exact neg h1 (cong (Ev.now _) (by simp [h1]))
theorem cross_mul {n d p q x y : Int} (h1 : rateB n d = true) (h2 : rateB p q = true) (hx : crossR n d p q = (x, y)) (hr : ratioB x y = true) : mulR x y p q = (n, d) ∧ 0 < x ∧ 0 < y ∧ ∃ g : Int, 0 < g ∧ n * q = x * g ∧ d * p = y * g := by
  have a1 := rate_iff.1 h1
  have a2 := rate_iff.1 h2
  have b1 := ratio_iff.1 a1.1
  have b2 := ratio_iff.1 a2.1
  have bx := ratio_iff.1 hr
  unfold crossR at hx
  rw [if_pos ⟨h1, h2⟩] at hx
  unfold divR at hx
  rw [if_pos ⟨a1.1, a2.1⟩] at hx
  have hnq : 0 < n * q := Int.mul_pos (by omega) (by omega)
  have hdp : 0 < d * p := Int.mul_pos (by omega) (by omega)
  obtain ⟨g, hg, e1, e2⟩ := mk_facts hdp hnq hx hr
  have hx0 : 0 < x := by
    rcases Int.lt_or_le 0 x with h | h
    · exact h
    · have := Int.mul_nonneg (show 0 ≤ -x by omega) (show 0 ≤ g by omega)
      rw [Int.neg_mul] at this
      omega
  -- x * p over y * q is n over d, expanded by some t
  have key : x * p * d = y * q * n := by
    have h3 : x * p * d * g = y * q * n * g := by
      have l1 : x * p * d * g = (x * g) * (d * p) := by ac_rfl
      have l2 : y * q * n * g = (y * g) * (n * q) := by ac_rfl
      rw [l1, l2, ← e1, ← e2, Int.mul_comm]
    exact Int.eq_of_mul_eq_mul_right (by omega) h3
  have hco : Int.gcd n d = 1 := b1.2.2
  have hdvd : n ∣ x * p := by
    have h4 : n ∣ d * (x * p) := ⟨y * q, by rw [show d * (x * p) = x * p * d by ac_rfl, key]; ac_rfl⟩
    have h5 := Int.natAbs_dvd_natAbs.2 h4
    rw [Int.natAbs_mul] at h5
    exact Int.natAbs_dvd_natAbs.1 (Nat.Coprime.dvd_of_dvd_mul_left hco h5)
  obtain ⟨t, ht⟩ := hdvd
  have hxp : 0 < x * p := Int.mul_pos hx0 (by omega)
  have ht0 : 0 < t := by
    rcases Int.lt_or_le 0 t with h | h
    · exact h
    · have := Int.mul_nonneg (show 0 ≤ n by omega) (show 0 ≤ -t by omega)
      rw [Int.mul_neg] at this
      omega
  have hyq : y * q = d * t := by
    have h5 : n * (y * q) = n * (d * t) := by
      rw [show n * (y * q) = y * q * n by ac_rfl, ← key, ht]
      ac_rfl
    exact Int.eq_of_mul_eq_mul_left (by omega) h5
  have p1 := prod_in (a := x) (b := p) (by omega) (by omega) (by omega) (by omega)
  have p2 := prod_in (a := y) (b := q) (by omega) (by omega) (by omega) (by omega)
  refine ⟨?_, hx0, by omega, g, hg, e1, e2⟩
  unfold mulR
  rw [if_pos ⟨hr, a2.1⟩, hyq, ht]
  exact mk_low a1.1 ht0 (by omega) (by omega) (by omega)
theorem whole_one : Ev (fun k => laws_whole.f k 1) (1, 1) := by
  refine Ev.bind (mk_s 1 1) (cong (Ev.now _) ?_)
  decide
theorem cross_none (n d p q : Int) (h : ¬ (rateB n d = true ∧ rateB p q = true)) : crossR n d p q = (0, 0) := by unfold crossR; rw [if_neg h]
theorem FnCross : laws_FnCross.Pure := by
  intro l hm hl _
  have hl' : l.length ≤ 140737488351232 := by omega
  obtain ⟨n, d, p, q, e⟩ := drawcross_ok l hl'
  refine Ev.rounds (known rfl ?_)
  by_cases hb : decide ((l.length : Int) > 1048576) = true
  · exact pos hb (Ev.now _)
  refine neg hb (Ev.bind e (Ev.bind (cross_i n d p q) (Ev.bind (cross_i p q n d) (Ev.bind (rate_s n d) ?_))))
  by_cases h1 : rateB n d = true
  · refine pos h1 (Ev.bind (rate_s p q) (Ev.step (fun k => laws_FnCross.j0.eq_2 _ n d p q _ _ _ _ k) ?_))
    by_cases h2 : rateB p q = true
    · refine neg (by simp [h2]) (Ev.bind (ratio_s _ _) (Ev.bind (cross_s n d p q) (Ev.bind (ratio_s _ _) (neg (by simp) (Ev.bind (ratio_s _ _) ?_)))))
      obtain ⟨x, y, hx⟩ : ∃ x y, crossR n d p q = (x, y) := ⟨_, _, rfl⟩
      obtain ⟨u, v, hu⟩ : ∃ u v, crossR p q n d = (u, v) := ⟨_, _, rfl⟩
      rw [hx, hu]
      by_cases hr : ratioB x y = true
      · obtain ⟨hm1, hx0, hy0, g, hg, e1, e2⟩ := cross_mul h1 h2 hx hr
        have hxy := mul_s x y p q
        rw [hm1] at hxy
        refine pos hr (Ev.bind hxy (pos (by simp) (Ev.bind (ratio_s _ _) ?_)))
        by_cases hr2 : ratioB u v = true
        · obtain ⟨hm2, hu0, hv0, g', hg', e3, e4⟩ := cross_mul h2 h1 hu hr2
          have bx := ratio_iff.1 hr
          have bu := ratio_iff.1 hr2
          -- p * d = u * g', q * n = v * g'; n * q = x * g, d * p = y * g
          have f1 : u * g' = y * g := by rw [← e3, ← e2]; ac_rfl
          have f2 : v * g' = x * g := by rw [← e4, ← e1]; ac_rfl
          have key : x * u = y * v := by
            have h3 : x * u * (g * g') = y * v * (g * g') := by
              have l1 : x * u * (g * g') = (x * g) * (u * g') := by ac_rfl
              have l2 : y * v * (g * g') = (y * g) * (v * g') := by ac_rfl
              rw [l1, l2, f1, f2, Int.mul_comm]
            exact Int.eq_of_mul_eq_mul_right (Int.ne_of_gt (Int.mul_pos hg hg')) h3
          have p1 := prod_in (a := x) (b := u) (by omega) (by omega) (by omega) (by omega)
          have hxu : 0 < x * u := Int.mul_pos hx0 hu0
          have hone : mulR x y u v = (1, 1) := by
            unfold mulR
            rw [if_pos ⟨hr, hr2⟩, ← key]
            have := mk_low (a := 1) (b := 1) (t := x * u) (by decide) hxu (by omega) (by omega) (by omega)
            rwa [Int.one_mul] at this
          have hm3 := mul_s x y u v
          rw [hone] at hm3
          exact pos hr2 (Ev.bind hm3 (Ev.bind whole_one (cong (Ev.now _) (by simp))))
        · exact neg hr2 (Ev.now _)
      · exact neg hr (Ev.now _)
    · rw [cross_none n d p q (fun h => h2 h.2), cross_none p q n d (fun h => h2 h.1)]
      exact pos (by simp [h2]) (pos (by simp) (cong (Ev.now _) (by simp)))
  · rw [cross_none n d p q (fun h => h1 h.1), cross_none p q n d (fun h => h1 h.2)]
    exact neg h1 (Ev.step (fun k => laws_FnCross.j0.eq_2 _ n d p q _ _ _ _ k) (pos rfl (pos (by simp) (cong (Ev.now _) (by simp)))))

end Go.Proofs.Ytbjhjdkgegilcaa.PureFnCross
namespace Go.Proofs.Ytbjhjdkgegilcaa.Pure
theorem FnCross : Go.Proofs.Ytbjhjdkgegilcaa.PFnCross.laws_FnCross.Pure := Go.Proofs.Ytbjhjdkgegilcaa.PureFnCross.FnCross
end Go.Proofs.Ytbjhjdkgegilcaa.Pure
