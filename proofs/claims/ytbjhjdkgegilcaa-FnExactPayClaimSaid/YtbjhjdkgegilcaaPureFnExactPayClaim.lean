/- Plain laws for FnExactPayClaim (what the printed functions compute). -/
import Derived.Test.YtbjhjdkgegilcaaPFnExactPayClaimx4
import Derived.Test.YtbjhjdkgegilcaaEv
namespace Go.Proofs.Ytbjhjdkgegilcaa.PureFnExactPayClaim
open Go.RowKit Go.Proofs.Ytbjhjdkgegilcaa.PFnExactPayClaim Go.Proofs.YtbjhjdkgegilcaaW.PrintWords Go.Proofs.YtbjhjdkgegilcaaW.PrintLast Go.Proofs.YtbjhjdkgegilcaaW.PrintMore Go.Proofs.YtbjhjdkgegilcaaEv
set_option linter.unusedVariables false
def inB (a b c : Int) : Bool := decide (a ≥ b) && decide (a ≤ c)
theorem inB_iff {a b c : Int} : inB a b c = true ↔ b ≤ a ∧ a ≤ c := by simp [inB]
theorem in_s (a b c : Int) : spec_l1In.f a b c = some (inB a b c) := by
  unfold spec_l1In.f inB
  by_cases h : a ≥ b <;> simp [h]
theorem in_i (a b c : Int) : impl_in.f a b c = some (inB a b c) := in_s a b c
theorem prod_in {a b : Int} (h1 : -1000000000 ≤ a) (h2 : a ≤ 1000000000) (h3 : -1000000000 ≤ b) (h4 : b ≤ 1000000000) : -1000000000000000000 ≤ a * b ∧ a * b ≤ 1000000000000000000 := by
  have h := Int.natAbs_mul a b
  have h5 : a.natAbs * b.natAbs ≤ 1000000000 * 1000000000 := Nat.mul_le_mul (by omega) (by omega)
  omega
theorem gcd_step (a b : Int) : Int.gcd b (Int.tmod a b) = Int.gcd a b := by
  unfold Int.gcd
  rw [Int.natAbs_tmod, Nat.gcd_comm, ← Nat.gcd_rec, Nat.gcd_comm]
theorem tmod_lt (a b : Int) (h : b ≠ 0) : (Int.tmod a b).natAbs < b.natAbs := by
  rw [Int.natAbs_tmod]
  exact Nat.mod_lt _ (by omega)
theorem gcd_s : ∀ (m : Nat) (a b : Int), b.natAbs ≤ m → -9223372036854775807 ≤ a → a ≤ 9223372036854775807 → -9223372036854775807 ≤ b → b ≤ 9223372036854775807 → Ev (fun k => spec_l2Gcd.l0 k a b) (Int.gcd a b) := by
  intro m
  induction m with
  | zero =>
    intro a b hb h1 h2 h3 h4
    obtain rfl : b = 0 := by omega
    refine Ev.step (fun k => spec_l2Gcd.l0.eq_2 a 0 k) (pos rfl (cong (Ev.now _) ?_))
    rw [Int.gcd_zero_right, wrap_in (by omega) (by omega)]
    unfold mx
    split <;> omega
  | succ m ih =>
    intro a b hb h1 h2 h3 h4
    by_cases h0 : b = 0
    · exact ih a b (by omega) h1 h2 h3 h4
    · have ht := tmod_lt a b h0
      have h := ih b (Int.tmod a b) (by omega) h3 h4 (by omega) (by omega)
      rw [gcd_step] at h
      exact Ev.step (fun k => spec_l2Gcd.l0.eq_2 a b k) (neg h0 h)
theorem gcd_i : ∀ (m : Nat) (a b : Int), b.natAbs ≤ m → 0 ≤ a → 0 ≤ b → Ev (fun k => impl_divisor.l0 k a b) (Int.gcd a b) := by
  intro m
  induction m with
  | zero =>
    intro a b hb h1 h3
    obtain rfl : b = 0 := by omega
    refine Ev.step (fun k => impl_divisor.l0.eq_2 a 0 k) (pos rfl (cong (Ev.now _) ?_))
    rw [Int.gcd_zero_right]
    omega
  | succ m ih =>
    intro a b hb h1 h3
    by_cases h0 : b = 0
    · exact ih a b (by omega) h1 h3
    · have ht := tmod_lt a b h0
      have hn : 0 ≤ Int.tmod a b := Int.tmod_nonneg b h1
      have h := ih b (Int.tmod a b) (by omega) h3 hn
      rw [gcd_step] at h
      exact Ev.step (fun k => impl_divisor.l0.eq_2 a b k) (neg h0 h)
theorem abs_i {a : Int} (h : -9223372036854775807 ≤ a) (h2 : a ≤ 9223372036854775807) : impl_absolute.f a = some (a.natAbs : Int) := by
  unfold impl_absolute.f
  by_cases h0 : a < 0
  · rw [if_pos h0, wrap_in (by omega) (by omega)]
    congr 1
    omega
  · rw [if_neg h0]
    congr 1
    omega
def ratioB (n d : Int) : Bool := inB d 1 1000000000 && (inB n (-1000000000) 1000000000 && (Int.gcd n d == 1))
theorem ratio_iff {n d : Int} : ratioB n d = true ↔ (1 ≤ d ∧ d ≤ 1000000000) ∧ (-1000000000 ≤ n ∧ n ≤ 1000000000) ∧ Int.gcd n d = 1 := by
  simp [ratioB, inB_iff]
theorem ratio_s (n d : Int) : Ev (fun k => spec_IsRatio.f k n d) (ratioB n d) := by
  refine known (in_s _ _ _) ?_
  unfold ratioB
  by_cases h1 : inB d 1 1000000000 = true
  · refine pos h1 (known (in_s _ _ _) ?_)
    rw [h1, Bool.true_and]
    by_cases h2 : inB n (-1000000000) 1000000000 = true
    · refine pos h2 ?_
      rw [h2, Bool.true_and]
      have b1 := inB_iff.1 h1
      have b2 := inB_iff.1 h2
      refine Ev.bind (gcd_s d.natAbs n d (Nat.le_refl _) (by omega) (by omega) (by omega) (by omega)) (cong (Ev.now _) ?_)
      rw [Bool.eq_iff_iff, beq_iff_eq, beq_iff_eq]
      omega
    · refine neg h2 (cong (Ev.now _) ?_)
      simp at h2
      simp [h2]
  · refine neg h1 (cong (Ev.now _) ?_)
    simp at h1
    simp [h1]
theorem ratio_i (n d : Int) : Ev (fun k => impl_IsRatio.f k n d) (ratioB n d) := by
  refine known (in_i _ _ _) ?_
  unfold ratioB
  by_cases h1 : inB d 1 1000000000 = true
  · refine pos h1 (known (in_i _ _ _) ?_)
    rw [h1, Bool.true_and]
    by_cases h2 : inB n (-1000000000) 1000000000 = true
    · refine pos h2 ?_
      rw [h2, Bool.true_and]
      have b1 := inB_iff.1 h1
      have b2 := inB_iff.1 h2
      have e : Int.gcd (n.natAbs : Int) d = Int.gcd n d := by unfold Int.gcd; simp
      refine known (abs_i (by omega) (by omega)) (Ev.bind (gcd_i d.natAbs n.natAbs d (Nat.le_refl _) (by omega) (by omega)) (cong (Ev.now _) ?_))
      rw [e, Bool.eq_iff_iff, beq_iff_eq, beq_iff_eq]
      omega
    · refine neg h2 (cong (Ev.now _) ?_)
      simp at h2
      simp [h2]
  · refine neg h1 (cong (Ev.now _) ?_)
    simp at h1
    simp [h1]
def rateB (n d : Int) : Bool := ratioB n d && (decide (n > 0) && decide (n ≤ 1000 * d))
theorem rate_iff {n d : Int} : rateB n d = true ↔ ratioB n d = true ∧ 0 < n ∧ n ≤ 1000 * d := by simp [rateB]
theorem rate_s (n d : Int) : Ev (fun k => spec_IsRate.f k n d) (rateB n d) := by
  refine Ev.bind (ratio_s n d) ?_
  unfold rateB
  by_cases h1 : ratioB n d = true
  · have b := ratio_iff.1 h1
    refine pos h1 ?_
    rw [h1, Bool.true_and]
    by_cases h2 : n > 0
    · refine pos h2 (cong (Ev.now _) ?_)
      rw [wrap_in (by omega) (by omega)]
      simp [h2]
    · refine neg h2 (cong (Ev.now _) ?_)
      simp [h2]
  · refine neg h1 (cong (Ev.now _) ?_)
    simp at h1
    simp [h1]
theorem rate_i (n d : Int) : Ev (fun k => impl_IsRate.f k n d) (rateB n d) := by
  refine Ev.bind (ratio_i n d) ?_
  unfold rateB
  by_cases h1 : ratioB n d = true
  · have b := ratio_iff.1 h1
    refine pos h1 ?_
    rw [h1, Bool.true_and]
    by_cases h2 : n > 0
    · refine pos h2 (cong (Ev.now _) ?_)
      rw [wrap_in (by omega) (by omega)]
      simp [h2]
    · refine neg h2 (cong (Ev.now _) ?_)
      simp [h2]
  · refine neg h1 (cong (Ev.now _) ?_)
    simp at h1
    simp [h1]
theorem floor_val {n d : Int} (hd : 0 < d) (h1 : -1000000000000000000 ≤ n) (h2 : n ≤ 1000000000000000000) : (if Int.tmod n d < 0 then some (wrap64 ((wrap64 (Int.tdiv n d)) - 1)) else some (wrap64 (Int.tdiv n d))) = some (n / d) := by
  have ha := Int.natAbs_tdiv n d
  have hb : (Int.tdiv n d).natAbs ≤ n.natAbs := by rw [ha]; exact Nat.div_le_self _ _
  rw [wrap_in (i := Int.tdiv n d) (by omega) (by omega), wrap_in (by omega) (by omega)]
  have e := Int.mul_tdiv_add_tmod n d
  have t := tmod_lt n d (by omega)
  by_cases h : Int.tmod n d < 0
  · rw [if_pos h]
    congr 1
    symm
    rw [Int.ediv_eq_iff_of_pos hd]
    have e2 : (Int.tdiv n d - 1) * d = d * Int.tdiv n d - d := by rw [Int.sub_mul, Int.one_mul, Int.mul_comm]
    rw [e2]
    omega
  · rw [if_neg h]
    congr 1
    symm
    rw [Int.ediv_eq_iff_of_pos hd]
    have e2 : Int.tdiv n d * d = d * Int.tdiv n d := Int.mul_comm _ _
    rw [e2]
    omega
theorem floor_s {n d : Int} (hd : 0 < d) (h1 : -1000000000000000000 ≤ n) (h2 : n ≤ 1000000000000000000) : spec_l2Floor.f n d = some (n / d) := by
  unfold spec_l2Floor.f
  rw [if_neg (by omega), floor_val hd h1 h2]
theorem floor_i {n d : Int} (hd : 0 < d) (h1 : -1000000000000000000 ≤ n) (h2 : n ≤ 1000000000000000000) : impl_floorOf.f n d = some (n / d) := by
  unfold impl_floorOf.f
  rw [if_neg (by omega), floor_val hd h1 h2]
def amtB (a : Int) : Bool := inB a (-1000000000) 1000000000
def valR (a n d : Int) : Int × Bool := if amtB a = true ∧ rateB n d = true then (a * n / d, true) else (0, false)
theorem val_s (a n d : Int) : Ev (fun k => spec_ValueAt.f k a n d) (valR a n d) := by
  refine known (in_s _ _ _) ?_
  show Ev (fun k => if amtB a = true then _ else _) _
  unfold valR
  by_cases h1 : amtB a = true
  · refine pos h1 (Ev.bind (rate_s _ _) ?_)
    by_cases h2 : rateB n d = true
    · have b1 := inB_iff.1 h1
      have b2 := rate_iff.1 h2
      have b3 := ratio_iff.1 b2.1
      have p1 := prod_in (a := a) (b := n) (by omega) (by omega) (by omega) (by omega)
      rw [if_pos (⟨h1, h2⟩ : amtB a = true ∧ rateB n d = true), wrap_in (i := a * n) (by omega) (by omega)]
      exact pos h2 (known (floor_s (by omega) p1.1 p1.2) (Ev.now _))
    · exact neg h2 (cong (Ev.now _) (by simp [h2]))
  · exact neg h1 (cong (Ev.now _) (by simp [h1]))
theorem val_bd {a n d : Int} (h1 : amtB a = true) (h2 : rateB n d = true) : -1000000000000 ≤ a * n / d ∧ a * n / d ≤ 1000000000000 := by
  have b1 := inB_iff.1 h1
  have b2 := rate_iff.1 h2
  have b3 := ratio_iff.1 b2.1
  have hn : n ≤ 1000 * d := b2.2.2
  constructor
  · refine (Int.le_ediv_iff_mul_le (by omega)).2 ?_
    have e1 : (-1000000000) * n ≤ a * n := Int.mul_le_mul_of_nonneg_right b1.1 (by omega)
    omega
  · refine Int.ediv_le_of_le_mul (by omega) ?_
    have e1 : a * n ≤ 1000000000 * n := Int.mul_le_mul_of_nonneg_right b1.2 (by omega)
    omega
theorem valR_bd (a n d : Int) : -1000000000000 ≤ (valR a n d).1 ∧ (valR a n d).1 ≤ 1000000000000 := by
  unfold valR
  split
  · rename_i h
    exact val_bd h.1 h.2
  · simp
theorem val_i (a n d : Int) : Ev (fun k => impl_ValueAt.f k a n d) (valR a n d) := by
  refine known (in_i _ _ _) ?_
  show Ev (fun k => if amtB a = true then _ else _) _
  unfold valR
  by_cases h1 : amtB a = true
  · refine pos h1 (Ev.bind (rate_i _ _) ?_)
    by_cases h2 : rateB n d = true
    · have b1 := inB_iff.1 h1
      have b2 := rate_iff.1 h2
      have b3 := ratio_iff.1 b2.1
      have p1 := prod_in (a := a) (b := n) (by omega) (by omega) (by omega) (by omega)
      rw [if_pos (⟨h1, h2⟩ : amtB a = true ∧ rateB n d = true), wrap_in (i := a * n) (by omega) (by omega)]
      exact pos h2 (known (floor_i (by omega) p1.1 p1.2) (Ev.now _))
    · exact neg h2 (cong (Ev.now _) (by simp [h2]))
  · exact neg h1 (cong (Ev.now _) (by simp [h1]))
theorem booked_i (a n d : Int) : Ev (fun k => impl_booked.f k a n d) (valR a n d).1 := Ev.bind (val_i a n d) (Ev.now _)
def claimB (a n d p : Int) : Bool := inB a 1 1000000000 && (rateB n d && inB p 0 a)
theorem claim_iff {a n d p : Int} : claimB a n d p = true ↔ (1 ≤ a ∧ a ≤ 1000000000) ∧ rateB n d = true ∧ 0 ≤ p ∧ p ≤ a := by simp [claimB, inB_iff]
theorem claim_s (a n d p : Int) : Ev (fun k => spec_IsClaim.f k a n d p) (claimB a n d p) := by
  refine known (in_s _ _ _) ?_
  unfold claimB
  by_cases h1 : inB a 1 1000000000 = true
  · refine pos h1 (Ev.bind (rate_s _ _) ?_)
    by_cases h2 : rateB n d = true
    · exact pos h2 (known (in_s _ _ _) (cong (Ev.now _) (by rw [h1, h2]; rfl)))
    · exact neg h2 (cong (Ev.now _) (by rw [Bool.not_eq_true] at h2; rw [h2]; simp))
  · exact neg h1 (cong (Ev.now _) (by rw [Bool.not_eq_true] at h1; rw [h1]; simp))
theorem claim_i (a n d p : Int) : Ev (fun k => impl_IsClaim.f k a n d p) (claimB a n d p) := by
  refine known (in_i _ _ _) ?_
  unfold claimB
  by_cases h1 : inB a 1 1000000000 = true
  · refine pos h1 (Ev.bind (rate_i _ _) ?_)
    by_cases h2 : rateB n d = true
    · exact pos h2 (known (in_i _ _ _) (cong (Ev.now _) (by rw [h1, h2]; rfl)))
    · exact neg h2 (cong (Ev.now _) (by rw [Bool.not_eq_true] at h2; rw [h2]; simp))
  · exact neg h1 (cong (Ev.now _) (by rw [Bool.not_eq_true] at h1; rw [h1]; simp))
def payB (a n d p t rn rd : Int) : Bool := claimB a n d p && (rateB rn rd && inB t 1 (a - p))
theorem pay_iff {a n d p t rn rd : Int} : payB a n d p t rn rd = true ↔ claimB a n d p = true ∧ rateB rn rd = true ∧ 1 ≤ t ∧ t ≤ a - p := by simp [payB, inB_iff]
def gainR (n d p t rn rd : Int) : Int := (valR t rn rd).1 - ((valR (p + t) n d).1 - (valR p n d).1)
def payR (a n d p t rn rd : Int) : Int × Int × Int × Int × Int × Bool := if payB a n d p t rn rd = true then (a, n, d, p + t, gainR n d p t rn rd, true) else (0, 0, 0, 0, 0, false)
theorem gain_bd (n d p t rn rd : Int) : -3000000000000 ≤ gainR n d p t rn rd ∧ gainR n d p t rn rd ≤ 3000000000000 := by
  have b1 := valR_bd t rn rd
  have b2 := valR_bd (p + t) n d
  have b3 := valR_bd p n d
  unfold gainR
  omega
theorem payj_s (a n d p t rn rd : Int) (x : Bool) (hx : x = !payB a n d p t rn rd) : Ev (fun k => spec_PayClaim.j0 k t x a n d p rn rd) (payR a n d p t rn rd) := by
  refine Ev.step (fun k => spec_PayClaim.j0.eq_2 t x a n d p rn rd k) ?_
  unfold payR
  by_cases h : payB a n d p t rn rd = true
  · have b1 := valR_bd t rn rd
    have b2 := valR_bd (p + t) n d
    have b3 := valR_bd p n d
    have q := pay_iff.1 h
    have q1 := claim_iff.1 q.1
    rw [h] at hx
    subst hx
    rw [if_pos h]
    refine neg (by simp) ?_
    rw [wrap_in (i := p + t) (by omega) (by omega)]
    refine Ev.bind (val_s _ _ _) (Ev.bind (val_s _ _ _) (Ev.bind (val_s _ _ _) (cong (Ev.now _) ?_)))
    rw [wrap_in (i := (valR t rn rd).1 - (valR (p + t) n d).1) (by omega) (by omega), wrap_in (by omega) (by omega)]
    unfold gainR
    simp only [Prod.mk.injEq, true_and, and_true]
    omega
  · rw [Bool.not_eq_true] at h
    rw [h] at hx
    subst hx
    exact pos rfl (cong (Ev.now _) (by rw [h]; rfl))
theorem pay_s (a n d p t rn rd : Int) : Ev (fun k => spec_PayClaim.f k a n d p t rn rd) (payR a n d p t rn rd) := by
  refine Ev.bind (claim_s a n d p) ?_
  by_cases h1 : claimB a n d p = true
  · have q := claim_iff.1 h1
    refine pos h1 (Ev.bind (rate_s _ _) ?_)
    by_cases h2 : rateB rn rd = true
    · refine pos h2 (known (in_s _ _ _) (payj_s a n d p t rn rd _ ?_))
      rw [wrap_in (by omega) (by omega)]
      simp [payB, h1, h2]
    · exact neg h2 (payj_s a n d p t rn rd _ (by simp [payB, h2]))
  · exact neg h1 (payj_s a n d p t rn rd _ (by simp [payB, h1]))
theorem payj_i (a n d p t rn rd : Int) (x : Bool) (hx : x = !payB a n d p t rn rd) : Ev (fun k => impl_PayClaim.j0 k t x a n d p rn rd) (payR a n d p t rn rd) := by
  refine Ev.step (fun k => impl_PayClaim.j0.eq_2 t x a n d p rn rd k) ?_
  unfold payR
  by_cases h : payB a n d p t rn rd = true
  · have b1 := valR_bd t rn rd
    have b2 := valR_bd (p + t) n d
    have b3 := valR_bd p n d
    have q := pay_iff.1 h
    have q1 := claim_iff.1 q.1
    rw [h] at hx
    subst hx
    rw [if_pos h]
    refine neg (by simp) ?_
    rw [wrap_in (i := p + t) (by omega) (by omega)]
    refine Ev.bind (booked_i _ _ _) (Ev.bind (booked_i _ _ _) (Ev.bind (booked_i _ _ _) (cong (Ev.now _) ?_)))
    rw [wrap_in (i := (valR (p + t) n d).1 - (valR p n d).1) (by omega) (by omega), wrap_in (by omega) (by omega)]
    rfl
  · rw [Bool.not_eq_true] at h
    rw [h] at hx
    subst hx
    exact pos rfl (cong (Ev.now _) (by rw [h]; rfl))
theorem pay_i (a n d p t rn rd : Int) : Ev (fun k => impl_PayClaim.f k a n d p t rn rd) (payR a n d p t rn rd) := by
  refine Ev.bind (claim_i a n d p) ?_
  by_cases h1 : claimB a n d p = true
  · have q := claim_iff.1 h1
    refine pos h1 (Ev.bind (rate_i _ _) ?_)
    by_cases h2 : rateB rn rd = true
    · refine pos h2 (known (in_i _ _ _) (payj_i a n d p t rn rd _ ?_))
      rw [wrap_in (by omega) (by omega)]
      simp [payB, h1, h2]
    · exact neg h2 (payj_i a n d p t rn rd _ (by simp [payB, h2]))
  · exact neg h1 (payj_i a n d p t rn rd _ (by simp [payB, h1]))

theorem eq_claim (a b c d : Int) : laws_eqClaim.f a b c d a b c d = some true := by simp [laws_eqClaim.f, laws_eqRatio.f]
theorem FnExactPayClaim (a n d p : Int) (g : (Lit.int .i64 a).wf = true ∧ ((Lit.int .i64 n).wf = true ∧ (Lit.int .i64 d).wf = true) ∧ (Lit.int .i64 p).wf = true) (t : Int) (wt : (Lit.int .i64 t).wf = true) (rn rd : Int) (g2 : (Lit.int .i64 rn).wf = true ∧ (Lit.int .i64 rd).wf = true) : ∃ k, laws_FnExactPayClaim.f k a n d p t rn rd = some true :=
  Ev.rounds (known rfl (known rfl (Ev.bind (pay_s a n d p t rn rd) (known rfl (known rfl (Ev.bind (pay_i a n d p t rn rd) (known (eq_claim _ _ _ _) (pos rfl (pos rfl (neg (by simp) (Ev.now _)))))))))))

end Go.Proofs.Ytbjhjdkgegilcaa.PureFnExactPayClaim
