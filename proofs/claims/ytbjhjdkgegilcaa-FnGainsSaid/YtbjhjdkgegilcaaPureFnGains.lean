/- Plain laws for FnGains (what the printed functions compute). -/
import Derived.Test.YtbjhjdkgegilcaaPFnGainsx4
import Derived.Test.YtbjhjdkgegilcaaEv
namespace Go.Proofs.Ytbjhjdkgegilcaa.PureFnGains
open Go.RowKit Go.Proofs.Ytbjhjdkgegilcaa.PFnGains Go.Proofs.YtbjhjdkgegilcaaW.PrintWords Go.Proofs.YtbjhjdkgegilcaaW.PrintLast Go.Proofs.YtbjhjdkgegilcaaW.PrintMore Go.Proofs.YtbjhjdkgegilcaaEv
set_option linter.unusedVariables false
def inB (a b c : Int) : Bool := decide (a ≥ b) && decide (a ≤ c)
theorem inB_iff {a b c : Int} : inB a b c = true ↔ b ≤ a ∧ a ≤ c := by simp [inB]
theorem in_s (a b c : Int) : spec_l1In.f a b c = some (inB a b c) := by
  unfold spec_l1In.f inB
  by_cases h : a ≥ b <;> simp [h]
theorem in_i (a b c : Int) : impl_in.f a b c = some (inB a b c) := in_s a b c
theorem prod_in {a b : Int} (h1 : -1000000000 ≤ a) (h2 : a ≤ 1000000000) (h3 : -1000000000 ≤ b) (h4 : b ≤ 1000000000) : -1000000000000000000 ≤ a * b ∧ a * b ≤ 1000000000000000000 := by
  have h := Int.natAbs_mul a b
  have h5 : a.natAbs * b.natAbs ≤ 1000000000 * 1000000000 := Nat.mul_le_mul (by omega) (by omega)
  omega
theorem gcd_step (a b : Int) : Int.gcd b (Int.tmod a b) = Int.gcd a b := by
  unfold Int.gcd
  rw [Int.natAbs_tmod, Nat.gcd_comm, ← Nat.gcd_rec, Nat.gcd_comm]
theorem tmod_lt (a b : Int) (h : b ≠ 0) : (Int.tmod a b).natAbs < b.natAbs := by
  rw [Int.natAbs_tmod]
  exact Nat.mod_lt _ (by omega)
theorem gcd_s : ∀ (m : Nat) (a b : Int), b.natAbs ≤ m → -9223372036854775807 ≤ a → a ≤ 9223372036854775807 → -9223372036854775807 ≤ b → b ≤ 9223372036854775807 → Ev (fun k => spec_l2Gcd.l0 k a b) (Int.gcd a b) := by
  intro m
  induction m with
  | zero =>
    intro a b hb h1 h2 h3 h4
    obtain rfl : b = 0 := by omega
    refine Ev.step (fun k => spec_l2Gcd.l0.eq_2 a 0 k) (pos rfl (cong (Ev.now _) ?_))
    rw [Int.gcd_zero_right, wrap_in (by omega) (by omega)]
    unfold mx
    split <;> omega
  | succ m ih =>
    intro a b hb h1 h2 h3 h4
    by_cases h0 : b = 0
    · exact ih a b (by omega) h1 h2 h3 h4
    · have ht := tmod_lt a b h0
      have h := ih b (Int.tmod a b) (by omega) h3 h4 (by omega) (by omega)
      rw [gcd_step] at h
      exact Ev.step (fun k => spec_l2Gcd.l0.eq_2 a b k) (neg h0 h)
theorem gcd_i : ∀ (m : Nat) (a b : Int), b.natAbs ≤ m → 0 ≤ a → 0 ≤ b → Ev (fun k => impl_divisor.l0 k a b) (Int.gcd a b) := by
  intro m
  induction m with
  | zero =>
    intro a b hb h1 h3
    obtain rfl : b = 0 := by omega
    refine Ev.step (fun k => impl_divisor.l0.eq_2 a 0 k) (pos rfl (cong (Ev.now _) ?_))
    rw [Int.gcd_zero_right]
    omega
  | succ m ih =>
    intro a b hb h1 h3
    by_cases h0 : b = 0
    · exact ih a b (by omega) h1 h3
    · have ht := tmod_lt a b h0
      have hn : 0 ≤ Int.tmod a b := Int.tmod_nonneg b h1
      have h := ih b (Int.tmod a b) (by omega) h3 hn
      rw [gcd_step] at h
      exact Ev.step (fun k => impl_divisor.l0.eq_2 a b k) (neg h0 h)
theorem abs_i {a : Int} (h : -9223372036854775807 ≤ a) (h2 : a ≤ 9223372036854775807) : impl_absolute.f a = some (a.natAbs : Int) := by
  unfold impl_absolute.f
  by_cases h0 : a < 0
  · rw [if_pos h0, wrap_in (by omega) (by omega)]
    congr 1
    omega
  · rw [if_neg h0]
    congr 1
    omega
def ratioB (n d : Int) : Bool := inB d 1 1000000000 && (inB n (-1000000000) 1000000000 && (Int.gcd n d == 1))
theorem ratio_iff {n d : Int} : ratioB n d = true ↔ (1 ≤ d ∧ d ≤ 1000000000) ∧ (-1000000000 ≤ n ∧ n ≤ 1000000000) ∧ Int.gcd n d = 1 := by
  simp [ratioB, inB_iff]
theorem ratio_s (n d : Int) : Ev (fun k => spec_IsRatio.f k n d) (ratioB n d) := by
  refine known (in_s _ _ _) ?_
  unfold ratioB
  by_cases h1 : inB d 1 1000000000 = true
  · refine pos h1 (known (in_s _ _ _) ?_)
    rw [h1, Bool.true_and]
    by_cases h2 : inB n (-1000000000) 1000000000 = true
    · refine pos h2 ?_
      rw [h2, Bool.true_and]
      have b1 := inB_iff.1 h1
      have b2 := inB_iff.1 h2
      refine Ev.bind (gcd_s d.natAbs n d (Nat.le_refl _) (by omega) (by omega) (by omega) (by omega)) (cong (Ev.now _) ?_)
      rw [Bool.eq_iff_iff, beq_iff_eq, beq_iff_eq]
      omega
    · refine neg h2 (cong (Ev.now _) ?_)
      simp at h2
      simp [h2]
  · refine neg h1 (cong (Ev.now _) ?_)
    simp at h1
    simp [h1]
theorem ratio_i (n d : Int) : Ev (fun k => impl_IsRatio.f k n d) (ratioB n d) := by
  refine known (in_i _ _ _) ?_
  unfold ratioB
  by_cases h1 : inB d 1 1000000000 = true
  · refine pos h1 (known (in_i _ _ _) ?_)
    rw [h1, Bool.true_and]
    by_cases h2 : inB n (-1000000000) 1000000000 = true
    · refine pos h2 ?_
      rw [h2, Bool.true_and]
      have b1 := inB_iff.1 h1
      have b2 := inB_iff.1 h2
      have e : Int.gcd (n.natAbs : Int) d = Int.gcd n d := by unfold Int.gcd; simp
      refine known (abs_i (by omega) (by omega)) (Ev.bind (gcd_i d.natAbs n.natAbs d (Nat.le_refl _) (by omega) (by omega)) (cong (Ev.now _) ?_))
      rw [e, Bool.eq_iff_iff, beq_iff_eq, beq_iff_eq]
      omega
    · refine neg h2 (cong (Ev.now _) ?_)
      simp at h2
      simp [h2]
  · refine neg h1 (cong (Ev.now _) ?_)
    simp at h1
    simp [h1]
def rateB (n d : Int) : Bool := ratioB n d && (decide (n > 0) && decide (n ≤ 1000 * d))
theorem rate_iff {n d : Int} : rateB n d = true ↔ ratioB n d = true ∧ 0 < n ∧ n ≤ 1000 * d := by simp [rateB]
theorem rate_s (n d : Int) : Ev (fun k => spec_IsRate.f k n d) (rateB n d) := by
  refine Ev.bind (ratio_s n d) ?_
  unfold rateB
  by_cases h1 : ratioB n d = true
  · have b := ratio_iff.1 h1
    refine pos h1 ?_
    rw [h1, Bool.true_and]
    by_cases h2 : n > 0
    · refine pos h2 (cong (Ev.now _) ?_)
      rw [wrap_in (by omega) (by omega)]
      simp [h2]
    · refine neg h2 (cong (Ev.now _) ?_)
      simp [h2]
  · refine neg h1 (cong (Ev.now _) ?_)
    simp at h1
    simp [h1]
theorem rate_i (n d : Int) : Ev (fun k => impl_IsRate.f k n d) (rateB n d) := by
  refine Ev.bind (ratio_i n d) ?_
  unfold rateB
  by_cases h1 : ratioB n d = true
  · have b := ratio_iff.1 h1
    refine pos h1 ?_
    rw [h1, Bool.true_and]
    by_cases h2 : n > 0
    · refine pos h2 (cong (Ev.now _) ?_)
      rw [wrap_in (by omega) (by omega)]
      simp [h2]
    · refine neg h2 (cong (Ev.now _) ?_)
      simp [h2]
  · refine neg h1 (cong (Ev.now _) ?_)
    simp at h1
    simp [h1]
def bigB (n : Int) : Bool := inB n (-2000000000000000000) 2000000000000000000
def mk1 (n d : Int) : Int × Int := if ratioB (Int.tdiv n (Int.gcd n d)) (Int.tdiv d (Int.gcd n d)) = true then (Int.tdiv n (Int.gcd n d), Int.tdiv d (Int.gcd n d)) else (0, 0)
def mk0 (n d : Int) : Int × Int := if d < 0 then mk1 (-n) (-d) else mk1 n d
def mkR (n d : Int) : Int × Int := if d = 0 ∨ bigB n = false ∨ bigB d = false then (0, 0) else mk0 n d
theorem tdiv_small {n : Int} {g : Nat} (h1 : -2000000000000000000 ≤ n) (h2 : n ≤ 2000000000000000000) : wrap64 (Int.tdiv n g) = Int.tdiv n g := by
  have h := Int.natAbs_tdiv n g
  have h3 : (Int.tdiv n g).natAbs ≤ n.natAbs := by rw [h]; exact Nat.div_le_self _ _
  exact wrap_in (by omega) (by omega)
theorem mk1_s {n d : Int} (hd : 0 < d) (h1 : -2000000000000000000 ≤ n) (h2 : n ≤ 2000000000000000000) (h4 : d ≤ 2000000000000000000) : Ev (fun k => spec_MakeRatio.j1 k n d) (mk1 n d) := by
  have hg : (Int.gcd n d : Int) ≠ 0 := by
    have := Int.gcd_pos_of_ne_zero_right n (show d ≠ 0 by omega)
    omega
  refine Ev.step (fun k => spec_MakeRatio.j1.eq_2 n d k) (Ev.bind (gcd_s d.natAbs n d (Nat.le_refl _) (by omega) (by omega) (by omega) (by omega)) (neg hg ?_))
  rw [tdiv_small h1 h2, tdiv_small (by omega) h4]
  refine Ev.bind (ratio_s _ _) ?_
  unfold mk1
  by_cases h : ratioB (Int.tdiv n (Int.gcd n d)) (Int.tdiv d (Int.gcd n d)) = true
  · exact pos h (cong (Ev.now _) (by rw [if_pos h]))
  · exact neg h (cong (Ev.now _) (by rw [if_neg h]))
theorem mk_j_s (n d : Int) (x : Bool) (hx : x = false → d ≠ 0 ∧ bigB n = true ∧ bigB d = true) : Ev (fun k => spec_MakeRatio.j0 k n d x) (if x = true then (0, 0) else mk0 n d) := by
  refine Ev.step (fun k => spec_MakeRatio.j0.eq_2 n d x k) ?_
  cases x with
  | true => exact pos rfl (Ev.now _)
  | false =>
    obtain ⟨h0, hn, hd⟩ := hx rfl
    have bn := inB_iff.1 hn
    have bd := inB_iff.1 hd
    refine neg (by simp) ?_
    rw [if_neg (by simp)]
    unfold mk0
    by_cases h : d < 0
    · rw [if_pos h]
      refine pos h ?_
      rw [wrap_in (by omega) (by omega), wrap_in (by omega) (by omega)]
      exact mk1_s (by omega) (by omega) (by omega) (by omega)
    · rw [if_neg h]
      exact neg h (mk1_s (by omega) (by omega) (by omega) (by omega))
theorem mk_s (n d : Int) : Ev (fun k => spec_MakeRatio.f k n d) (mkR n d) := by
  unfold mkR
  by_cases h0 : d = 0
  · refine pos h0 (cong (mk_j_s n d true (by simp)) ?_)
    simp [h0]
  · refine neg h0 (known (in_s _ _ _) ?_)
    show Ev _ (if d = 0 ∨ bigB n = false ∨ bigB d = false then (0, 0) else mk0 n d)
    by_cases hn : bigB n = true
    · refine pos hn (known (in_s _ _ _) (cong (mk_j_s n d _ (fun hx => ⟨h0, hn, ?_⟩)) ?_))
      · simpa [bigB] using hx
      · cases hd : bigB d <;> simp [bigB] at hd hn <;> simp [hd, hn, h0, bigB]
    · refine neg hn (cong (mk_j_s n d true (by simp)) ?_)
      simp at hn
      simp [hn]
theorem floor_val {n d : Int} (hd : 0 < d) (h1 : -1000000000000000000 ≤ n) (h2 : n ≤ 1000000000000000000) : (if Int.tmod n d < 0 then some (wrap64 ((wrap64 (Int.tdiv n d)) - 1)) else some (wrap64 (Int.tdiv n d))) = some (n / d) := by
  have ha := Int.natAbs_tdiv n d
  have hb : (Int.tdiv n d).natAbs ≤ n.natAbs := by rw [ha]; exact Nat.div_le_self _ _
  rw [wrap_in (i := Int.tdiv n d) (by omega) (by omega), wrap_in (by omega) (by omega)]
  have e := Int.mul_tdiv_add_tmod n d
  have t := tmod_lt n d (by omega)
  by_cases h : Int.tmod n d < 0
  · rw [if_pos h]
    congr 1
    symm
    rw [Int.ediv_eq_iff_of_pos hd]
    have e2 : (Int.tdiv n d - 1) * d = d * Int.tdiv n d - d := by rw [Int.sub_mul, Int.one_mul, Int.mul_comm]
    rw [e2]
    omega
  · rw [if_neg h]
    congr 1
    symm
    rw [Int.ediv_eq_iff_of_pos hd]
    have e2 : Int.tdiv n d * d = d * Int.tdiv n d := Int.mul_comm _ _
    rw [e2]
    omega
theorem floor_s {n d : Int} (hd : 0 < d) (h1 : -1000000000000000000 ≤ n) (h2 : n ≤ 1000000000000000000) : spec_l2Floor.f n d = some (n / d) := by
  unfold spec_l2Floor.f
  rw [if_neg (by omega), floor_val hd h1 h2]
theorem floor_i {n d : Int} (hd : 0 < d) (h1 : -1000000000000000000 ≤ n) (h2 : n ≤ 1000000000000000000) : impl_floorOf.f n d = some (n / d) := by
  unfold impl_floorOf.f
  rw [if_neg (by omega), floor_val hd h1 h2]
def amtB (a : Int) : Bool := inB a (-1000000000) 1000000000
def valR (a n d : Int) : Int × Bool := if amtB a = true ∧ rateB n d = true then (a * n / d, true) else (0, false)
theorem val_s (a n d : Int) : Ev (fun k => spec_ValueAt.f k a n d) (valR a n d) := by
  refine known (in_s _ _ _) ?_
  show Ev (fun k => if amtB a = true then _ else _) _
  unfold valR
  by_cases h1 : amtB a = true
  · refine pos h1 (Ev.bind (rate_s _ _) ?_)
    by_cases h2 : rateB n d = true
    · have b1 := inB_iff.1 h1
      have b2 := rate_iff.1 h2
      have b3 := ratio_iff.1 b2.1
      have p1 := prod_in (a := a) (b := n) (by omega) (by omega) (by omega) (by omega)
      rw [if_pos (⟨h1, h2⟩ : amtB a = true ∧ rateB n d = true), wrap_in (i := a * n) (by omega) (by omega)]
      exact pos h2 (known (floor_s (by omega) p1.1 p1.2) (Ev.now _))
    · exact neg h2 (cong (Ev.now _) (by simp [h2]))
  · exact neg h1 (cong (Ev.now _) (by simp [h1]))
theorem val_bd {a n d : Int} (h1 : amtB a = true) (h2 : rateB n d = true) : -1000000000000 ≤ a * n / d ∧ a * n / d ≤ 1000000000000 := by
  have b1 := inB_iff.1 h1
  have b2 := rate_iff.1 h2
  have b3 := ratio_iff.1 b2.1
  have hn : n ≤ 1000 * d := b2.2.2
  constructor
  · refine (Int.le_ediv_iff_mul_le (by omega)).2 ?_
    have e1 : (-1000000000) * n ≤ a * n := Int.mul_le_mul_of_nonneg_right b1.1 (by omega)
    omega
  · refine Int.ediv_le_of_le_mul (by omega) ?_
    have e1 : a * n ≤ 1000000000 * n := Int.mul_le_mul_of_nonneg_right b1.2 (by omega)
    omega
theorem valR_bd (a n d : Int) : -1000000000000 ≤ (valR a n d).1 ∧ (valR a n d).1 ≤ 1000000000000 := by
  unfold valR
  split
  · rename_i h
    exact val_bd h.1 h.2
  · simp
theorem val_i (a n d : Int) : Ev (fun k => impl_ValueAt.f k a n d) (valR a n d) := by
  refine known (in_i _ _ _) ?_
  show Ev (fun k => if amtB a = true then _ else _) _
  unfold valR
  by_cases h1 : amtB a = true
  · refine pos h1 (Ev.bind (rate_i _ _) ?_)
    by_cases h2 : rateB n d = true
    · have b1 := inB_iff.1 h1
      have b2 := rate_iff.1 h2
      have b3 := ratio_iff.1 b2.1
      have p1 := prod_in (a := a) (b := n) (by omega) (by omega) (by omega) (by omega)
      rw [if_pos (⟨h1, h2⟩ : amtB a = true ∧ rateB n d = true), wrap_in (i := a * n) (by omega) (by omega)]
      exact pos h2 (known (floor_i (by omega) p1.1 p1.2) (Ev.now _))
    · exact neg h2 (cong (Ev.now _) (by simp [h2]))
  · exact neg h1 (cong (Ev.now _) (by simp [h1]))

theorem and255 (n : Int) : Go.bits .and .i64 n 255 = n % 256 := by
  have h255 : (BitVec.ofInt 64 255).toNat = 2 ^ 8 - 1 := by decide
  have key : (BitVec.ofInt 64 n &&& BitVec.ofInt 64 255).toNat = (n % ((2 ^ 64 : Nat) : Int)).toNat % 2 ^ 8 := by
    rw [BitVec.toNat_and, BitVec.toNat_ofInt, h255, Nat.and_two_pow_sub_one_eq_mod]
  show IntKind.i64.wrap ((BitVec.ofInt 64 n &&& BitVec.ofInt 64 255).toNat : Nat) = n % 256
  rw [key, IntKind.wrap_i64]
  omega
theorem byte_ok (l : List Int) (i h : Int) (hl : l.length ≤ 140737488351232) (h0 : 0 ≤ i) : ∃ v i' h', spec_l1Byte.f l i h = some (v, i', h') ∧ 0 ≤ i' ∧ 0 ≤ v ∧ v ≤ 255 := by
  unfold spec_l1Byte.f
  by_cases hlt : i < (l.length : Int)
  · rw [if_pos hlt, if_pos h0, and255]
    refine ⟨_, _, _, rfl, ?_, by omega, by omega⟩
    rw [wrap_inc h0 hlt (by omega)]
    omega
  · rw [if_neg hlt, and255]
    exact ⟨_, _, _, rfl, h0, by omega, by omega⟩
theorem below_ok (l : List Int) (i h n : Int) (hl : l.length ≤ 140737488351232) (h0 : 0 ≤ i) : ∃ v i' h', spec_l1Below.f l i h n = some (v, i', h') ∧ 0 ≤ i' ∧ 0 ≤ v ∧ (0 < n → v < n) := by
  unfold spec_l1Below.f
  by_cases h1 : n ≤ 0
  · rw [if_pos h1]
    exact ⟨_, _, _, rfl, h0, by omega, by omega⟩
  · rw [if_neg h1]
    by_cases h2 : n ≤ 256
    · rw [if_pos h2]
      obtain ⟨v, i1, h', e, g0, g1, g2⟩ := byte_ok l i h hl h0
      rw [e]
      simp only [Option.bind_some]
      rw [if_neg (by omega)]
      refine ⟨_, _, _, rfl, g0, Int.tmod_nonneg n g1, fun _ => Int.tmod_lt_of_pos v (by omega)⟩
    · rw [if_neg h2]
      obtain ⟨v1, i1, k1, e1, g1, p1, q1⟩ := byte_ok l i h hl h0
      rw [e1]
      simp only [Option.bind_some]
      obtain ⟨v2, i2, k2, e2, g2, p2, q2⟩ := byte_ok l i1 k1 hl g1
      rw [e2]
      simp only [Option.bind_some]
      obtain ⟨v3, i3, k3, e3, g3, p3, q3⟩ := byte_ok l i2 k2 hl g2
      rw [e3]
      simp only [Option.bind_some]
      obtain ⟨v4, i4, k4, e4, g4, p4, q4⟩ := byte_ok l i3 k3 hl g3
      rw [e4]
      simp only [Option.bind_some]
      rw [if_neg (by omega)]
      refine ⟨_, _, _, rfl, g4, Int.tmod_nonneg n ?_, fun _ => Int.tmod_lt_of_pos _ (by omega)⟩
      rw [wrap_in (i := v1 * 16777216) (by omega) (by omega), wrap_in (i := v2 * 65536) (by omega) (by omega), wrap_in (i := v3 * 256) (by omega) (by omega), wrap_in (i := v1 * 16777216 + v2 * 65536) (by omega) (by omega), wrap_in (i := v1 * 16777216 + v2 * 65536 + v3 * 256) (by omega) (by omega), wrap_in (by omega) (by omega)]
      omega
theorem new_ok (l : List Int) (hl : l.length ≤ 140737488351232) : ∃ h, Ev (fun k => spec_l1New.f k l) (l, 0, h) := by
  have key : ∀ (d : Nat) (x i : Int), 0 ≤ i → (l.length : Int) - i ≤ d → ∃ h, Ev (fun k => spec_l1New.l0 k l x i) (l, 0, h) := by
    intro d
    induction d with
    | zero =>
      intro x i h0 hd
      exact ⟨x, Ev.step (fun k => spec_l1New.l0.eq_2 l x i k) (neg (by omega) (Ev.now _))⟩
    | succ d ih =>
      intro x i h0 hd
      by_cases hlt : i < (l.length : Int)
      · by_cases h4 : i < 4000
        · obtain ⟨h, hh⟩ := ih (Go.bits .and .i64 (wrap64 ((wrap64 ((wrap64 (x * 131)) + (wrap64 (rd l i)))) + 7)) 1073741823) (i + 1) (by omega) (by omega)
          rw [← wrap_inc h0 hlt (by omega)] at hh
          exact ⟨h, Ev.step (fun k => spec_l1New.l0.eq_2 l x i k) (pos hlt (pos h4 (pos h0 hh)))⟩
        · exact ⟨x, Ev.step (fun k => spec_l1New.l0.eq_2 l x i k) (pos hlt (neg h4 (Ev.now _)))⟩
      · exact ⟨x, Ev.step (fun k => spec_l1New.l0.eq_2 l x i k) (neg hlt (Ev.now _))⟩
  exact key l.length _ 0 (by omega) (by omega)
theorem once_ok (l : List Int) (i h n : Int) (hl : l.length ≤ 140737488351232) (h0 : 0 ≤ i) : ∃ v i' h', spec_l1Once.f l i h n = some (v, i', h') ∧ 0 ≤ i' := by
  unfold spec_l1Once.f
  obtain ⟨v, i1, h1, e, g0, _⟩ := below_ok l i h n hl h0
  rw [e]
  exact ⟨_, _, _, rfl, g0⟩
theorem pickint_ok (l : List Int) (i h : Int) (xs : List Int) (hx : 0 < xs.length) (hl : l.length ≤ 140737488351232) (h0 : 0 ≤ i) : ∃ v i' h', spec_l1PickInt.f l i h xs = some (v, i', h') ∧ 0 ≤ i' ∧ v ∈ xs := by
  unfold spec_l1PickInt.f
  obtain ⟨v, i1, h1, e, g0, g1, g2⟩ := below_ok l i h xs.length hl h0
  rw [e]
  simp only [Option.bind_some]
  rw [if_pos g1, if_pos (g2 (by omega))]
  exact ⟨_, _, _, rfl, g0, getD_mem xs 0 _ (by have := g2 (by omega); omega)⟩
theorem odd_ok (l : List Int) (i h : Int) (hl : l.length ≤ 140737488351232) (h0 : 0 ≤ i) : ∃ v i' h', spec_l1Odd.f l i h = some (v, i', h') ∧ 0 ≤ i' ∧ -9223372036854775808 ≤ v ∧ v ≤ 9223372036854775807 := by
  unfold spec_l1Odd.f
  obtain ⟨v, i1, h1, e, g0, g1⟩ := pickint_ok l i h [0, 1, (-1), 2, 1000000, 1000001, (-1000001), 1000000000, 1000000001, 9223372036854775807, (-9223372036854775808)] (by simp) hl h0
  rw [e]
  refine ⟨_, _, _, rfl, g0, ?_⟩
  simp only [List.mem_cons, List.not_mem_nil, or_false] at g1
  omega
theorem any_ok (l : List Int) (i h : Int) (hl : l.length ≤ 140737488351232) (h0 : 0 ≤ i) : ∃ n d i' h', Ev (fun k => spec_l2Any.f k l i h) (n, d, i', h') ∧ 0 ≤ i' := by
  obtain ⟨v, i1, h1, e, g0, _⟩ := below_ok l i h 12 hl h0
  by_cases c0 : v = 0
  · exact ⟨_, _, _, _, known e (pos c0 (Ev.now _)), g0⟩
  · by_cases c1 : v = 1
    · obtain ⟨v2, i2, h2, e2, g2, _⟩ := odd_ok l i1 h1 hl g0
      obtain ⟨v3, i3, h3, e3, g3, _⟩ := pickint_ok l i2 h2 [1, 2, 1000000000, (-1), 4] (by simp) hl g2
      exact ⟨_, _, _, _, known e (neg c0 (pos c1 (known e2 (known e3 (Ev.now _))))), g3⟩
    · by_cases c2 : v = 2
      · obtain ⟨v2, i2, h2, e2, g2, _⟩ := below_ok l i1 h1 1000000000 hl g0
        obtain ⟨v3, i3, h3, e3, g3, _⟩ := below_ok l i2 h2 1000000000 hl g2
        exact ⟨_, _, _, _, known e (neg c0 (neg c1 (pos c2 (known e2 (known e3 (Ev.bind (mk_s _ _) (Ev.now _))))))), g3⟩
      · obtain ⟨v2, i2, h2, e2, g2, _⟩ := below_ok l i1 h1 41 hl g0
        obtain ⟨v3, i3, h3, e3, g3, _⟩ := below_ok l i2 h2 12 hl g2
        exact ⟨_, _, _, _, known e (neg c0 (neg c1 (neg c2 (known e2 (known e3 (Ev.bind (mk_s _ _) (Ev.now _))))))), g3⟩
theorem rate39_ok (l : List Int) (i h : Int) (hl : l.length ≤ 140737488351232) (h0 : 0 ≤ i) : ∃ n d i' h', Ev (fun k => spec_l39Rate.f k l i h) (n, d, i', h') ∧ 0 ≤ i' := by
  obtain ⟨v, i1, h1, e, g0⟩ := once_ok l i h 16 hl h0
  cases v with
  | true =>
    obtain ⟨n, d, i2, h2, e2, g2⟩ := any_ok l i1 h1 hl g0
    exact ⟨_, _, _, _, known e (pos rfl (Ev.bind e2 (Ev.now _))), g2⟩
  | false =>
    obtain ⟨v2, i2, h2, e2, g2, _⟩ := below_ok l i1 h1 100 hl g0
    exact ⟨_, _, _, _, known e (neg (by simp) (known e2 (Ev.bind (mk_s _ _) (Ev.now _)))), g2⟩
theorem total_ok (l : List Int) (i h : Int) (hl : l.length ≤ 140737488351232) (h0 : 0 ≤ i) : ∃ v i' h', spec_l3Total.f l i h = some (v, i', h') ∧ 0 ≤ i' := by
  unfold spec_l3Total.f
  obtain ⟨v, i1, h1, e, g0⟩ := once_ok l i h 8 hl h0
  rw [e]
  simp only [Option.bind_some]
  cases v with
  | true =>
    obtain ⟨v3, i3, h3, e3, g3, _⟩ := odd_ok l i1 h1 hl g0
    rw [if_pos rfl, e3]
    exact ⟨_, _, _, rfl, g3⟩
  | false =>
    obtain ⟨v3, i3, h3, e3, g3, _⟩ := below_ok l i1 h1 2001 hl g0
    rw [if_neg (by simp), e3]
    exact ⟨_, _, _, rfl, g3⟩
theorem drawgains_ok (l : List Int) (hl : l.length ≤ 140737488351232) : ∃ n rs, Ev (fun k => spec_DrawGainsOf.f k l) (n, rs) ∧ rs.length ≤ 6 := by
  obtain ⟨h, e⟩ := new_ok l hl
  obtain ⟨n, i1, h1, e1, g1⟩ := total_ok l 0 h hl (by omega)
  obtain ⟨c, i2, h2, e2, g2, b1, b2⟩ := below_ok l i1 h1 6 hl g1
  have key : ∀ (m : Nat) (acc : List S34) (c i h : Int), 0 ≤ i → 0 ≤ c → c ≤ m → (acc.length : Int) + c ≤ 6 → ∃ rs, Ev (fun k => spec_DrawGainsOf.l0 k n acc c l i h) (n, rs) ∧ rs.length ≤ 6 := by
    intro m
    induction m with
    | zero =>
      intro acc c i h h0 hc hm ha
      exact ⟨acc, Ev.step (fun k => spec_DrawGainsOf.l0.eq_2 n acc c l i h k) (neg (by omega) (Ev.now _)), by omega⟩
    | succ m ih =>
      intro acc c i h h0 hc hm ha
      by_cases hp : c > 0
      · obtain ⟨rn, rd, i3, h3, e3, g3⟩ := rate39_ok l i h hl h0
        obtain ⟨rs, hrs, hr6⟩ := ih (acc ++ [(⟨rn, rd⟩ : S34)]) (c - 1) i3 h3 g3 (by omega) (by omega) (by simp; omega)
        rw [← wrap_dec hp (Int.le_refl c) (by omega)] at hrs
        exact ⟨rs, Ev.step (fun k => spec_DrawGainsOf.l0.eq_2 n acc c l i h k) (pos hp (Ev.bind e3 (pos (by omega) hrs))), hr6⟩
      · exact ⟨acc, Ev.step (fun k => spec_DrawGainsOf.l0.eq_2 n acc c l i h k) (neg hp (Ev.now _)), by omega⟩
  obtain ⟨rs, hrs, hr6⟩ := key 6 [] c i2 h2 g2 b1 (by have := b2 (by omega); omega) (by have := b2 (by omega); simp; omega)
  exact ⟨n, rs, Ev.bind e (known e1 (known e2 hrs)), hr6⟩

/-- The differences of the values of an amount, from place i on. -/
def okAt (a : Int) (rs : List S34) (i : Nat) : Bool := (valR a (rs.getD i z34).f0 (rs.getD i z34).f1).2
def vAt (a : Int) (rs : List S34) (i : Nat) : Int := (valR a (rs.getD i z34).f0 (rs.getD i z34).f1).1
def gainsTo (a : Int) (rs : List S34) : Nat → List Int
  | 0 => []
  | i + 1 => if i = 0 then [] else gainsTo a rs i ++ [vAt a rs i - vAt a rs (i - 1)]
def allOk (a : Int) (rs : List S34) : Bool := (List.range rs.length).all (okAt a rs)
def gainsR (a : Int) (rs : List S34) : List Int × Bool := if (1 ≤ rs.length ∧ rs.length ≤ 40) ∧ allOk a rs = true then (gainsTo a rs rs.length, true) else ([], false)
theorem gainsTo_len (a : Int) (rs : List S34) : ∀ i, (gainsTo a rs i).length = i - 1
  | 0 => rfl
  | i + 1 => by
    unfold gainsTo
    split
    · rename_i h
      simp [h]
    · rw [List.length_append, gainsTo_len a rs i]
      simp
      omega
theorem rd_get (rs : List S34) (i : Nat) : rd_T34 rs (i : Int) = rs.getD i z34 := by simp [rd_T34]
theorem gains_i (a : Int) (rs : List S34) : Ev (fun k => impl_GainsOf.f k a rs) (gainsR a rs) := by
  refine known (in_i _ _ _) ?_
  by_cases hl : 1 ≤ rs.length ∧ rs.length ≤ 40
  · refine pos (inB_iff.2 (by omega)) ?_
    have key : ∀ (d i : Nat) (last : Int), i + d = rs.length → (0 < i → last = vAt a rs (i - 1)) → (∀ j, j < i → okAt a rs j = true) → Ev (fun k => impl_GainsOf.l0 k a (gainsTo a rs i) last rs rs.length (i : Int)) (gainsR a rs) := by
      intro d
      induction d with
      | zero =>
        intro i last hi hlast hok
        refine Ev.step (fun k => impl_GainsOf.l0.eq_2 a _ last rs rs.length (i : Int) k) (neg (by omega) (cong (Ev.now _) ?_))
        unfold gainsR
        rw [if_pos ⟨hl, List.all_eq_true.2 fun j hj => hok j (by have := List.mem_range.1 hj; omega)⟩]
        simp at hi
        rw [hi]
      | succ d ih =>
        intro i last hi hlast hok
        have hw : wrap64 ((i : Int) + 1) = ((i + 1 : Nat) : Int) := by rw [wrap_inc (n := rs.length) (by omega) (by omega) (by omega)]; omega
        refine Ev.step (fun k => impl_GainsOf.l0.eq_2 a _ last rs rs.length (i : Int) k) (pos (by omega) (pos (by omega) (pos (by omega) ?_)))
        rw [rd_get]
        refine Ev.bind (val_i _ _ _) ?_
        by_cases hv : okAt a rs i = true
        · have ih' := fun h1 => ih (i + 1) (vAt a rs i) (by omega) (fun _ => rfl) h1
          have ih2 := ih' (fun j hj => by
            rcases Nat.lt_or_ge j i with h | h
            · exact hok j h
            · rw [show j = i by omega]; exact hv)
          refine pos hv ?_
          rw [hw]
          have hb1 := valR_bd a (rs.getD i z34).f0 (rs.getD i z34).f1
          by_cases h0 : (i : Int) > 0
          · refine pos h0 (pos (by rw [gainsTo_len]; omega) ?_)
            have hb2 := valR_bd a (rs.getD (i - 1) z34).f0 (rs.getD (i - 1) z34).f1
            rw [hlast (by omega)]
            have e : gainsTo a rs (i + 1) = gainsTo a rs i ++ [wrap64 ((valR a (rs.getD i z34).f0 (rs.getD i z34).f1).1 - vAt a rs (i - 1))] := by
              rw [show gainsTo a rs (i + 1) = if i = 0 then [] else gainsTo a rs i ++ [vAt a rs i - vAt a rs (i - 1)] from rfl, if_neg (by omega), wrap_in (by unfold vAt; omega) (by unfold vAt; omega)]
              rfl
            rw [e] at ih2
            exact ih2
          · refine neg h0 ?_
            obtain rfl : i = 0 := by omega
            exact ih2
        · refine neg hv (cong (Ev.now _) ?_)
          unfold gainsR
          rw [if_neg]
          rintro ⟨_, h⟩
          exact hv (List.all_eq_true.1 h i (List.mem_range.2 (by omega)))
    exact key rs.length 0 0 (by omega) (by omega) (by omega)
  · refine neg (fun h => hl (by have := inB_iff.1 h; omega)) (cong (Ev.now _) ?_)
    unfold gainsR
    rw [if_neg (fun h => hl h.1)]
theorem gains_s (a : Int) (rs : List S34) : Ev (fun k => spec_GainsOf.f k a rs) (gainsR a rs) := by
  by_cases hl : 1 ≤ rs.length ∧ rs.length ≤ 40
  · have key : ∀ (d i : Nat), i + d = rs.length → (∀ j, j < i → okAt a rs j = true) → Ev (fun k => spec_GainsOf.l0 k a rs (gainsTo a rs i) (i : Int)) (gainsR a rs) := by
      intro d
      induction d with
      | zero =>
        intro i hi hok
        refine Ev.step (fun k => spec_GainsOf.l0.eq_2 a rs _ (i : Int) k) (neg (by omega) (Ev.step (fun k => spec_GainsOf.j1.eq_2 a rs _ (i : Int) false k) (neg (by simp) (known (in_s _ _ _) (cong (Ev.now _) ?_)))))
        unfold gainsR
        rw [if_pos ⟨hl, List.all_eq_true.2 fun j hj => hok j (by have := List.mem_range.1 hj; omega)⟩]
        simp at hi
        rw [hi, inB_iff.2 (by omega)]
      | succ d ih =>
        intro i hi hok
        have hw : wrap64 ((i : Int) + 1) = ((i + 1 : Nat) : Int) := by rw [wrap_inc (n := rs.length) (by omega) (by omega) (by omega)]; omega
        refine Ev.step (fun k => spec_GainsOf.l0.eq_2 a rs _ (i : Int) k) (pos (by omega) (Ev.step (fun k => spec_GainsOf.j1.eq_2 a rs _ (i : Int) _ k) (pos (by simp; omega) (pos (by omega) (pos (by omega) ?_)))))
        rw [rd_get]
        refine Ev.bind (val_s _ _ _) ?_
        by_cases hv : okAt a rs i = true
        · have ih2 := ih (i + 1) (by omega) (fun j hj => by
            rcases Nat.lt_or_ge j i with h | h
            · exact hok j h
            · rw [show j = i by omega]; exact hv)
          refine pos hv ?_
          rw [hw]
          have hb1 := valR_bd a (rs.getD i z34).f0 (rs.getD i z34).f1
          by_cases h0 : (i : Int) > 0
          · have hwd : wrap64 ((i : Int) - 1) = ((i - 1 : Nat) : Int) := by rw [wrap_dec (n := (i : Int)) h0 (by omega) (by omega)]; omega
            have hb2 := valR_bd a (rs.getD (i - 1) z34).f0 (rs.getD (i - 1) z34).f1
            rw [hwd, rd_get]
            refine pos h0 (pos (by omega) (pos (by omega) (Ev.bind (val_s _ _ _) (pos (by rw [gainsTo_len]; omega) ?_))))
            have e : gainsTo a rs (i + 1) = gainsTo a rs i ++ [wrap64 ((valR a (rs.getD i z34).f0 (rs.getD i z34).f1).1 - (valR a (rs.getD (i - 1) z34).f0 (rs.getD (i - 1) z34).f1).1)] := by
              rw [show gainsTo a rs (i + 1) = if i = 0 then [] else gainsTo a rs i ++ [vAt a rs i - vAt a rs (i - 1)] from rfl, if_neg (by omega), wrap_in (by omega) (by omega)]
              rfl
            rw [e] at ih2
            exact ih2
          · refine neg h0 ?_
            obtain rfl : i = 0 := by omega
            exact ih2
        · refine neg hv (cong (Ev.now _) ?_)
          unfold gainsR
          rw [if_neg]
          rintro ⟨_, h⟩
          exact hv (List.all_eq_true.1 h i (List.mem_range.2 (by omega)))
    exact key rs.length 0 (by omega) (by omega)
  · have e : gainsR a rs = ([], false) := by unfold gainsR; rw [if_neg (fun h => hl h.1)]
    rw [e]
    have hj : Ev (fun k => spec_GainsOf.j1 k a rs [] 0 false) ([], false) := by
      refine Ev.step (fun k => spec_GainsOf.j1.eq_2 a rs [] 0 false k) (neg (by simp) (known (in_s _ _ _) (cong (Ev.now _) ?_)))
      rw [Prod.mk.injEq]
      refine ⟨rfl, ?_⟩
      rw [← Bool.not_eq_true, inB_iff]
      omega
    refine Ev.step (fun k => spec_GainsOf.l0.eq_2 a rs [] 0 k) ?_
    by_cases h0 : (0 : Int) < (rs.length : Int)
    · refine pos h0 ?_
      have hd : decide ((rs.length : Int) ≤ 40) = false := decide_eq_false (by omega)
      rw [hd]
      exact hj
    · exact neg h0 hj

theorem sum_l0 (g : List Int) (hg : ∀ j, 0 ≤ j → j ≤ g.length → -1000000000000000000 ≤ (g.take j).sum ∧ (g.take j).sum ≤ 1000000000000000000) (hl : g.length ≤ 1000) : ∀ (d i : Nat), i + d = g.length → Ev (fun k => laws_sum.l0 k g (g.take i).sum (i : Int)) g.sum := by
  intro d
  induction d with
  | zero =>
    intro i hi
    refine Ev.step (fun k => laws_sum.l0.eq_2 g _ (i : Int) k) (neg (by omega) (cong (Ev.now _) ?_))
    rw [List.take_of_length_le (by omega)]
  | succ d ih =>
    intro i hi
    have hw : wrap64 ((i : Int) + 1) = ((i + 1 : Nat) : Int) := by rw [wrap_inc (n := g.length) (by omega) (by omega) (by omega)]; omega
    have h := ih (i + 1) (by omega)
    have e : (g.take (i + 1)).sum = (g.take i).sum + rd g (i : Int) := by
      rw [List.take_succ_eq_append_getElem (by omega), List.sum_append]
      simp [rd, List.getD_eq_getElem?_getD, List.getElem?_eq_getElem (show i < g.length by omega)]
    have hb := hg (i + 1) (by omega) (by omega)
    rw [e] at h hb
    refine Ev.step (fun k => laws_sum.l0.eq_2 g _ (i : Int) k) (pos (by omega) (pos (by omega) ?_))
    rw [hw, wrap_in (by omega) (by omega)]
    exact h
theorem gains_sum (a : Int) (rs : List S34) : ∀ i, 0 < i → (gainsTo a rs i).sum = vAt a rs (i - 1) - vAt a rs 0
  | 0, h => by omega
  | 1, _ => by simp [gainsTo]
  | i + 2, _ => by
    have ih := gains_sum a rs (i + 1) (by omega)
    rw [show gainsTo a rs (i + 2) = gainsTo a rs (i + 1) ++ [vAt a rs (i + 1) - vAt a rs i] from rfl, List.sum_append, ih]
    simp
    omega
theorem gains_take (a : Int) (rs : List S34) : ∀ n j, j + 1 ≤ n → (gainsTo a rs n).take j = gainsTo a rs (j + 1)
  | 0, j, h => by omega
  | n + 1, j, h => by
    rcases Nat.lt_or_ge (j + 1) (n + 1) with hlt | hge
    · have ih := gains_take a rs n j (by omega)
      rw [show gainsTo a rs (n + 1) = if n = 0 then [] else gainsTo a rs n ++ [vAt a rs n - vAt a rs (n - 1)] from rfl, if_neg (by omega), List.take_append_of_le_length (by rw [gainsTo_len]; omega), ih]
    · rw [List.take_of_length_le (by rw [gainsTo_len]; omega), show n + 1 = j + 1 by omega]
theorem vAt_bd (a : Int) (rs : List S34) (i : Nat) : -1000000000000 ≤ vAt a rs i ∧ vAt a rs i ≤ 1000000000000 := valR_bd _ _ _
theorem FnGains : laws_FnGains.Pure := by
  intro l hm hl _
  have hl' : l.length ≤ 140737488351232 := by omega
  obtain ⟨n, rs, e, h6⟩ := drawgains_ok l hl'
  refine Ev.rounds (known rfl ?_)
  by_cases hb : decide ((l.length : Int) > 1048576) = true
  · exact pos hb (Ev.now _)
  refine neg hb (Ev.bind e (Ev.bind (gains_i n rs) (Ev.bind (gains_s n rs) (neg (by simp) ?_))))
  by_cases h : (1 ≤ rs.length ∧ rs.length ≤ 40) ∧ allOk n rs = true
  · have eg : gainsR n rs = (gainsTo n rs rs.length, true) := by unfold gainsR; rw [if_pos h]
    rw [eg]
    have hok : ∀ i, i < rs.length → okAt n rs i = true := fun i hi => List.all_eq_true.1 h.2 i (List.mem_range.2 hi)
    have hw : wrap64 ((rs.length : Int) - 1) = ((rs.length - 1 : Nat) : Int) := by rw [wrap_dec (n := rs.length) (by omega) (by omega) (by omega)]; omega
    have hlen : (gainsTo n rs rs.length).length = rs.length - 1 := gainsTo_len n rs rs.length
    have hs := sum_l0 (gainsTo n rs rs.length) (fun j _ hj => by
      rw [gains_take n rs rs.length j (by omega), gains_sum n rs (j + 1) (by omega)]
      have b1 := vAt_bd n rs j
      have b2 := vAt_bd n rs 0
      simp only [Nat.add_sub_cancel]
      omega) (by omega) (rs.length - 1) 0 (by omega)
    rw [gains_sum n rs rs.length (by omega)] at hs
    have b1 := vAt_bd n rs (rs.length - 1)
    have b2 := vAt_bd n rs 0
    rw [hw, show rd_T34 rs 0 = rs.getD 0 z34 from rd_get rs 0, rd_get]
    refine pos rfl (pos (by show (0 : Int) < (rs.length : Int); omega) (Ev.bind (val_i _ _ _) (pos (by omega) (pos (by show ((rs.length - 1 : Nat) : Int) < (rs.length : Int); omega) (Ev.bind (val_i _ _ _) (pos (hok 0 (by omega)) (pos (hok (rs.length - 1) (by omega)) (Ev.bind hs (pos ?_ (cong (Ev.now _) ?_))))))))))
    · rw [wrap_in]
      · rfl
      · show _ ≤ vAt n rs (rs.length - 1) - vAt n rs 0
        omega
      · show vAt n rs (rs.length - 1) - vAt n rs 0 ≤ _
        omega
    · rw [beq_iff_eq]
      show (((gainsTo n rs rs.length).length : Nat) : Int) = _
      omega
  · have eg : gainsR n rs = ([], false) := by unfold gainsR; rw [if_neg h]
    rw [eg]
    exact neg (by simp) (cong (Ev.now _) (by simp))

end Go.Proofs.Ytbjhjdkgegilcaa.PureFnGains
namespace Go.Proofs.Ytbjhjdkgegilcaa.Pure
theorem FnGains : Go.Proofs.Ytbjhjdkgegilcaa.PFnGains.laws_FnGains.Pure := Go.Proofs.Ytbjhjdkgegilcaa.PureFnGains.FnGains
end Go.Proofs.Ytbjhjdkgegilcaa.Pure
