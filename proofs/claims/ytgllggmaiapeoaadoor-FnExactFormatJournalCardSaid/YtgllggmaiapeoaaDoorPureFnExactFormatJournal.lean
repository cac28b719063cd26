/- Plain laws for FnExactFormatJournal (what the printed functions compute). -/
import Derived.Test.YtgllggmaiapeoaaDoorPFnExactFormatJournalx8
import Derived.Test.YtgllggmaiapeoaaDoorEv
import Derived.Lib.ItoaLen
import Derived.Lib.SmallJoins
namespace Go.Proofs.YtgllggmaiapeoaaDoor.PureFnExactFormatJournal
open Go.RowKit Go.Proofs.YtgllggmaiapeoaaDoor.PFnExactFormatJournal Go.Proofs.YtgllggmaiapeoaaDoorW.PrintWords Go.Proofs.YtgllggmaiapeoaaDoorW.PrintLast Go.Proofs.YtgllggmaiapeoaaDoorW.PrintMore Go.Proofs.YtgllggmaiapeoaaDoorEv
set_option linter.unusedVariables false
def mkB (l : List UInt8) : ByteArray := ⟨l.toArray⟩
theorem mkB_list (l : List UInt8) : (mkB l).data.toList = l := rfl
theorem mkB_size (l : List UInt8) : (mkB l).size = l.length := rfl
theorem mkB_self (s : ByteArray) : mkB s.data.toList = s := rfl
theorem B_ext {a b : ByteArray} (h : a.data.toList = b.data.toList) : a = b := by
  cases a; cases b
  simp only [ByteArray.mk.injEq]
  exact Array.toList_inj.1 h
theorem mkB_app (a b : List UInt8) : mkB a ++ mkB b = mkB (a ++ b) := B_ext (by rw [Go.Joins.data_append]; rfl)
theorem mkB_cons (c : UInt8) (b : List UInt8) : (⟨#[c]⟩ : ByteArray) ++ mkB b = mkB (c :: b) := mkB_app [c] b
theorem itoaB_mk (n : Int) : itoaB n = mkB (Lib.itoa n) := rfl
theorem joinB_mk (xs : List ByteArray) : joinB xs = mkB (Lib.join (xs.map (·.data.toList)) [32]) := rfl
theorem itoaB_size (n : Int) (h0 : -9223372036854775808 ≤ n) (h1 : n ≤ 9223372036854775807) : (itoaB n).size ≤ 21 := Lib.itoa_length_le n h0 h1
/-- The digits of a number, none for 0. -/
def digs (u : Nat) : List UInt8 := if u = 0 then [] else Lib.decDigits u
theorem digs_step (u : Nat) (h : u ≠ 0) : digs u = digs (u / 10) ++ [UInt8.ofNat (48 + u % 10)] := by
  unfold digs
  rw [if_neg h, Lib.decDigits]
  by_cases h1 : u < 10
  · rw [dif_pos h1, if_pos (by omega), Nat.mod_eq_of_lt h1]
    rfl
  · rw [dif_neg h1, if_neg (by omega)]
theorem digit_ex (r : Nat) (h : r < 10) : (⟨#[48, 49, 50, 51, 52, 53, 54, 55, 56, 57]⟩ : ByteArray).extract r (r + 1) = mkB [UInt8.ofNat (48 + r)] := by
  have : ∀ r : Fin 10, ((⟨#[48, 49, 50, 51, 52, 53, 54, 55, 56, 57]⟩ : ByteArray).extract r.val (r.val + 1)).data.toList = [UInt8.ofNat (48 + r.val)] := by decide
  exact B_ext (this ⟨r, h⟩)
def numEnd (n : Int) (s : List UInt8) : ByteArray := if n = 0 then (⟨#[48]⟩ : ByteArray) else if n < 0 then mkB (45 :: s) else mkB s
theorem tdiv_abs (x : Int) : (Int.tdiv x 10).natAbs = x.natAbs / 10 := by
  rw [Int.natAbs_tdiv]
  rfl
theorem num_l0 (n : Int) : ∀ (d : Nat) (x : Int) (s : List UInt8), x.natAbs < 10 ^ d → d + s.length ≤ 100 → -9223372036854775808 ≤ x → x ≤ 9223372036854775807 → Ev (fun k => spec_FormatInt.l0 k n (mkB s) x) (numEnd n (digs x.natAbs ++ s)) := by
  intro d
  induction d with
  | zero =>
    intro x s hx hd h0 h1
    have hx0 : x = 0 := by simp at hx; omega
    subst hx0
    refine Ev.step (fun k => spec_FormatInt.l0.eq_2 n (mkB s) 0 k) (pos rfl ?_)
    unfold numEnd
    refine ite_ (fun h => cong (Ev.now _) (by rw [if_pos h])) (fun h => ite_ (fun h2 => pos (by rw [mkB_size]; omega) (cong (Ev.now _) ?_)) (fun h2 => cong (Ev.now _) ?_))
    · rw [if_neg h, if_pos h2]
      exact mkB_cons 45 s
    · rw [if_neg h, if_neg h2]
      rfl
  | succ d ih =>
    intro x s hx hd h0 h1
    by_cases hx0 : x = 0
    · subst hx0
      refine Ev.step (fun k => spec_FormatInt.l0.eq_2 n (mkB s) 0 k) (pos rfl ?_)
      unfold numEnd
      refine ite_ (fun h => cong (Ev.now _) (by rw [if_pos h])) (fun h => ite_ (fun h2 => pos (by rw [mkB_size]; omega) (cong (Ev.now _) ?_)) (fun h2 => cong (Ev.now _) ?_))
      · rw [if_neg h, if_pos h2]
        exact mkB_cons 45 s
      · rw [if_neg h, if_neg h2]
        rfl
    · have hab := tdiv_abs x
      have hb : -9223372036854775808 ≤ Int.tdiv x 10 ∧ Int.tdiv x 10 ≤ 9223372036854775807 := by omega
      have hr : x.natAbs % 10 < 10 := Nat.mod_lt _ (by omega)
      have hm : Int.tmod x 10 = if x < 0 then -((x.natAbs % 10 : Nat) : Int) else ((x.natAbs % 10 : Nat) : Int) := by
        have := Int.tmod_add_mul_tdiv x 10
        by_cases hn : x < 0
        · rw [if_pos hn]
          have : 0 ≤ -x := by omega
          have e : Int.tmod x 10 = -(Int.tmod (-x) 10) := by rw [Int.neg_tmod]; omega
          rw [e, Int.tmod_eq_emod_of_nonneg this]
          omega
        · rw [if_neg hn, Int.tmod_eq_emod_of_nonneg (by omega)]
          omega
      have hpow : (Int.tdiv x 10).natAbs < 10 ^ d := by
        rw [hab]
        rw [Nat.pow_succ] at hx
        omega
      have h := ih (Int.tdiv x 10) (UInt8.ofNat (48 + x.natAbs % 10) :: s) hpow (by simp; omega) hb.1 hb.2
      have e2 : numEnd n (digs (Int.tdiv x 10).natAbs ++ UInt8.ofNat (48 + x.natAbs % 10) :: s) = numEnd n (digs x.natAbs ++ s) := by
        rw [hab, digs_step x.natAbs (by omega)]
        simp
      rw [e2] at h
      have hw : wrap64 (Int.tdiv x 10) = Int.tdiv x 10 := wrap_in hb.1 hb.2
      have fin : ∀ (z : Int), z = ((x.natAbs % 10 : Nat) : Int) → (⟨#[48, 49, 50, 51, 52, 53, 54, 55, 56, 57]⟩ : ByteArray).extract z.toNat (wrap64 (z + 1)).toNat = mkB [UInt8.ofNat (48 + x.natAbs % 10)] ∧ 0 ≤ z ∧ z ≤ wrap64 (z + 1) ∧ wrap64 (z + 1) ≤ 10 := by
        intro z hz
        have e : wrap64 (z + 1) = z + 1 := wrap_in (by omega) (by omega)
        rw [e]
        refine ⟨?_, by omega, by omega, by omega⟩
        rw [show (z + 1).toNat = x.natAbs % 10 + 1 by omega, show z.toNat = x.natAbs % 10 by omega]
        exact digit_ex _ hr
      refine Ev.step (fun k => spec_FormatInt.l0.eq_2 n (mkB s) x k) (neg hx0 ?_)
      have go : ∀ (z : Int), z = ((x.natAbs % 10 : Nat) : Int) → Ev (fun k => if 0 ≤ z then (if z ≤ wrap64 (z + 1) then (if wrap64 (z + 1) ≤ 10 then (if ((⟨#[48, 49, 50, 51, 52, 53, 54, 55, 56, 57]⟩ : ByteArray).extract z.toNat (wrap64 (z + 1)).toNat).size + (mkB s).size ≤ 9223372036854775807 then (spec_FormatInt.l0 k n (((⟨#[48, 49, 50, 51, 52, 53, 54, 55, 56, 57]⟩ : ByteArray).extract z.toNat (wrap64 (z + 1)).toNat) ++ mkB s) (wrap64 (Int.tdiv x 10))) else none) else none) else none) else none) (numEnd n (digs x.natAbs ++ s)) := by
        intro z hz
        obtain ⟨f1, f2, f3, f4⟩ := fin z hz
        refine pos f2 (pos f3 (pos f4 ?_))
        rw [f1, hw]
        refine pos (by rw [mkB_size, mkB_size]; simp; omega) ?_
        rw [mkB_app]
        exact h
      by_cases hneg : Int.tmod x 10 < 0
      · have hxn : x < 0 := by
          by_cases hn : x < 0
          · exact hn
          · rw [if_neg hn] at hm; omega
        rw [if_pos hxn] at hm
        have hz : wrap64 (-(Int.tmod x 10)) = ((x.natAbs % 10 : Nat) : Int) := by
          rw [wrap_in (by omega) (by omega)]
          omega
        exact pos hneg (go _ hz)
      · have hz : Int.tmod x 10 = ((x.natAbs % 10 : Nat) : Int) := by
          by_cases hn : x < 0
          · rw [if_pos hn] at hm; omega
          · rw [if_neg hn] at hm; exact hm
        exact neg hneg (go _ hz)
theorem num_s (n : Int) (h0 : -9223372036854775808 ≤ n) (h1 : n ≤ 9223372036854775807) : Ev (fun k => spec_FormatInt.f k n) (itoaB n) := by
  refine cong (num_l0 n 19 n [] (by omega) (by simp) h0 h1) ?_
  unfold numEnd digs
  rw [itoaB_mk]
  unfold Lib.itoa
  by_cases h : n = 0
  · subst h
    rw [if_pos rfl, if_neg (by omega), Lib.decDigits, dif_pos (by decide)]
    rfl
  · rw [if_neg h, List.append_nil]
    have hz : ¬ n.natAbs = 0 := by omega
    by_cases h2 : n < 0
    · rw [if_pos h2, if_pos h2, if_neg hz]
    · rw [if_neg h2, if_neg h2, if_neg hz, show n.natAbs = n.toNat by omega]
theorem num_i (n : Int) (h0 : -9223372036854775808 ≤ n) (h1 : n ≤ 9223372036854775807) : Ev (fun k => impl_FormatInt.f k n) (itoaB n) := cong (r := itoaB n) (pos ⟨h0, h1⟩ (Ev.now _)) rfl
/-- The words' lengths, added up. -/
def sizes (l : List ByteArray) : Nat := (l.map (·.size)).sum
theorem lens_sizes (l : List ByteArray) : Lib.lens (l.map (·.data.toList)) = sizes l := by
  unfold Lib.lens sizes
  rw [List.map_map]
  rfl
theorem join_len (l : List ByteArray) : (Lib.join (l.map (·.data.toList)) [32]).length ≤ l.length + sizes l := by
  cases l with
  | nil => simp [Lib.join_nil]
  | cons x r =>
    rw [List.map_cons, Lib.join_cons, List.length_append, Lib.joinTail_length, lens_sizes]
    unfold sizes
    rw [List.map_cons, List.sum_cons, List.length_map, List.length_cons]
    have e : x.size = x.data.toList.length := rfl
    simp only [List.length_cons, List.length_nil]
    omega
theorem joinB_size (l : List ByteArray) : (joinB l).size ≤ l.length + sizes l := join_len l
theorem words_i (l : List ByteArray) (h : 0 < l.length) (hs : l.length + sizes l ≤ 1000000000) : Ev (fun k => impl_JoinWords.f k l) (joinB l) := pos ⟨h, by omega, by have := join_len l; omega⟩ (Ev.now _)
theorem words_l0 (l : List ByteArray) : ∀ (d : Nat) (i : Int) (acc : List UInt8), 0 < i → (l.length : Int) - i = d → acc.length + (Lib.joinTail [32] ((l.drop i.toNat).map (·.data.toList))).length ≤ 1000000000 → l.length ≤ 1000000000 → Ev (fun k => spec_JoinWords.l0 k l (mkB acc) i) (mkB (acc ++ Lib.joinTail [32] ((l.drop i.toNat).map (·.data.toList)))) := by
  intro d
  induction d with
  | zero =>
    intro i acc h0 hd hs hl
    refine Ev.step (fun k => spec_JoinWords.l0.eq_2 l (mkB acc) i k) (neg (by omega) (cong (Ev.now _) ?_))
    rw [List.drop_of_length_le (by omega)]
    simp [Lib.joinTail]
  | succ d ih =>
    intro i acc h0 hd hs hl
    have hlt : i < (l.length : Int) := by omega
    have e : l.drop i.toNat = rdOf ByteArray.empty l i :: l.drop (i.toNat + 1) := drop_at l ByteArray.empty i.toNat (by omega)
    have ej : Lib.joinTail [32] ((l.drop i.toNat).map (·.data.toList)) = 32 :: (rdOf ByteArray.empty l i).data.toList ++ Lib.joinTail [32] ((l.drop (i.toNat + 1)).map (·.data.toList)) := by
      rw [e, List.map_cons]
      simp [Lib.joinTail]
    rw [ej] at hs ⊢
    have hsz : (rdOf ByteArray.empty l i).size = (rdOf ByteArray.empty l i).data.toList.length := rfl
    simp only [List.length_append, List.length_cons] at hs
    have h := ih (i + 1) (acc ++ 32 :: (rdOf ByteArray.empty l i).data.toList) (by omega) (by omega) (by rw [show (i + 1).toNat = i.toNat + 1 by omega]; simp only [List.length_append, List.length_cons]; omega) hl
    rw [show (i + 1).toNat = i.toNat + 1 by omega, ← wrap_inc (by omega) hlt (by omega)] at h
    have e1 : mkB acc ++ (⟨#[32]⟩ : ByteArray) = mkB (acc ++ [32]) := mkB_app acc [32]
    have e2 : mkB (acc ++ [32]) ++ rdOf ByteArray.empty l i = mkB (acc ++ 32 :: (rdOf ByteArray.empty l i).data.toList) := by
      rw [← mkB_self (rdOf ByteArray.empty l i), mkB_app]
      simp [mkB_list]
    refine Ev.step (fun k => spec_JoinWords.l0.eq_2 l (mkB acc) i k) (pos hlt (pos h0 (pos (by rw [mkB_size]; omega) (pos (by omega) ?_))))
    rw [e1]
    refine pos (by rw [mkB_size]; simp only [List.length_append, List.length_cons, List.length_nil]; omega) ?_
    rw [e2]
    exact cong h (by simp)
theorem words_s (l : List ByteArray) (hs : l.length + sizes l ≤ 1000000000) : Ev (fun k => spec_JoinWords.f k l) (joinB l) := by
  cases l with
  | nil =>
    refine Ev.step (fun k => spec_JoinWords.l0.eq_2 [] _ 0 k) (neg (by simp) (cong (Ev.now _) ?_))
    rfl
  | cons x r =>
    have hl := join_len (x :: r)
    rw [List.map_cons, Lib.join_cons, List.length_append] at hl
    have h := words_l0 (x :: r) r.length 1 x.data.toList (by omega) (by simp) (by simpa using (by omega : x.data.toList.length + (Lib.joinTail [32] (r.map (·.data.toList))).length ≤ 1000000000)) (by omega)
    rw [show (1 : Int).toNat = 1 from rfl, List.drop_succ_cons, List.drop_zero] at h
    have e : joinB (x :: r) = mkB (x.data.toList ++ Lib.joinTail [32] (r.map (·.data.toList))) := by rw [joinB_mk, List.map_cons, Lib.join_cons]
    rw [← e] at h
    have hx : x.size ≤ 1000000000 := by
      have : x.size = x.data.toList.length := rfl
      omega
    refine Ev.step (fun k => spec_JoinWords.l0.eq_2 (x :: r) _ 0 k) (pos (by simp) (neg (by omega) (pos (by omega) (pos ?_ ?_))))
    · show 0 + x.size ≤ _
      omega
    · have e1 : (⟨#[]⟩ : ByteArray) ++ rdOf ByteArray.empty (x :: r) 0 = mkB x.data.toList := B_ext (by rw [Go.Joins.data_append]; rfl)
      rw [e1, show wrap64 (0 + 1) = (1 : Int) from wrap_in (by omega) (by omega)]
      exact h

def inB (a b c : Int) : Bool := decide (a ≥ b) && decide (a ≤ c)
theorem inB_iff {a b c : Int} : inB a b c = true ↔ b ≤ a ∧ a ≤ c := by simp [inB]
theorem in_s (a b c : Int) : spec_l1In.f a b c = some (inB a b c) := by
  unfold spec_l1In.f inB
  by_cases h : a ≥ b <;> simp [h]
theorem in_i (a b c : Int) : impl_in.f a b c = some (inB a b c) := in_s a b c
theorem code_ex (s : ByteArray) (hs : s.size ≤ 140737488351232) : ∃ b, Ev (fun k => spec_IsCode.f k s) b := by
  have key : ∀ (d : Nat) (i : Int), 0 ≤ i → (s.size : Int) - i ≤ d → ∃ b, Ev (fun k => spec_IsCode.l0 k s i) b := by
    intro d
    induction d with
    | zero =>
      intro i h0 hd
      refine ex_step (fun k => spec_IsCode.l0.eq_2 s i k) ?_
      repeat (first | exact ex_now _ | (exfalso; omega) | refine ex_ite (fun _ => ?_) (fun _ => ?_))
    | succ d ih =>
      intro i h0 hd
      refine ex_step (fun k => spec_IsCode.l0.eq_2 s i k) ?_
      refine ex_ite (fun hlt => ?_) (fun _ => ?_)
      · have hw : wrap64 (i + 1) = i + 1 := wrap_inc h0 hlt (by omega)
        have ih' := ih (i + 1) (by omega) (by omega)
        rw [hw]
        repeat (first | exact ex_now _ | exact ih' | (exfalso; omega) | refine ex_ite (fun _ => ?_) (fun _ => ?_))
      · repeat (first | exact ex_now _ | refine ex_ite (fun _ => ?_) (fun _ => ?_))
  exact key s.size 0 (by omega) (by omega)
open Classical in
noncomputable def codeB (s : ByteArray) : Bool := if h : ∃ b, Ev (fun k => spec_IsCode.f k s) b then h.choose else false
theorem code_s {s : ByteArray} (hs : s.size ≤ 140737488351232) : Ev (fun k => spec_IsCode.f k s) (codeB s) := by
  have h := code_ex s hs
  unfold codeB
  rw [dif_pos h]
  exact h.choose_spec
theorem code_l0 : ∀ k s i, impl_IsCode.l0 k s i = spec_IsCode.l0 k s i := by
  intro k
  induction k with
  | zero => intros; rfl
  | succ k ih => intro s i; simp only [impl_IsCode.l0, spec_IsCode.l0, ih]
theorem code_i {s : ByteArray} (hs : s.size ≤ 140737488351232) : Ev (fun k => impl_IsCode.f k s) (codeB s) := Ev.congr (fun k => code_l0 k s 0) (code_s hs)

def kindB (x : S33) : Bool :=
  if x.f2 = 1 ∨ x.f2 = 3 ∨ x.f2 = 4 then inB x.f4 1 100000 && (inB x.f5 1 100000 && decide (x.f6 = 0))
  else if x.f2 = 2 then inB x.f4 1 100000 && (decide (x.f5 = 0) && decide (x.f6 = 0))
  else if x.f2 = 5 then decide (x.f4 = 0) && (inB x.f5 (-100000) 100000 && (decide (x.f5 ≠ 0) && inB x.f6 1 9999))
  else false
noncomputable def eventB (x : S33) : Bool := inB x.f0 1 9999 && (inB x.f1 0 999 && (codeB x.f3 && kindB x))
theorem beq_dec (a b : Int) : (a == b) = decide (a = b) := by rw [Bool.eq_iff_iff, beq_iff_eq, decide_eq_true_iff]
theorem event_j1_s (x : S33) (b : Bool) (hb : b = decide (x.f2 = 1 ∨ x.f2 = 3 ∨ x.f2 = 4)) : Ev (fun k => spec_IsEvent.j1 k x.f2 b x.f0 x.f1 x.f2 x.f3 x.f4 x.f5 x.f6) (kindB x) := by
  refine Ev.step (fun k => spec_IsEvent.j1.eq_2 _ _ _ _ _ _ _ _ _ k) ?_
  unfold kindB
  by_cases h : x.f2 = 1 ∨ x.f2 = 3 ∨ x.f2 = 4
  · rw [if_pos h]
    refine pos (by rw [hb]; exact decide_eq_true h) (known (in_s _ _ _) (ite_ (fun h1 => known (in_s _ _ _) (ite_ (fun h2 => cong (Ev.now _) ?_) (fun h2 => cong (Ev.now _) ?_))) (fun h1 => cong (Ev.now _) ?_)))
    · rw [h1, h2, beq_dec]; rfl
    · rw [Bool.not_eq_true] at h2; rw [h1, h2]; rfl
    · rw [Bool.not_eq_true] at h1; rw [h1]; rfl
  · rw [if_neg h]
    refine neg (by rw [hb]; simpa using h) (ite_ (fun h1 => ?_) (fun h1 => ?_))
    · rw [if_pos h1]
      refine known (in_s _ _ _) (ite_ (fun h2 => ite_ (fun h3 => cong (Ev.now _) ?_) (fun h3 => cong (Ev.now _) ?_)) (fun h2 => cong (Ev.now _) ?_))
      · rw [h2, beq_dec, decide_eq_true h3]; rfl
      · rw [decide_eq_false h3]; simp
      · rw [Bool.not_eq_true] at h2; rw [h2]; rfl
    · rw [if_neg h1]
      refine ite_ (fun h2 => ?_) (fun h2 => cong (Ev.now _) (by rw [if_neg h2]))
      rw [if_pos h2]
      refine ite_ (fun h3 => known (in_s _ _ _) (ite_ (fun h4 => ite_ (fun h5 => cong (Ev.now _) ?_) (fun h5 => known (in_s _ _ _) (cong (Ev.now _) ?_))) (fun h4 => cong (Ev.now _) ?_))) (fun h3 => cong (Ev.now _) ?_)
      · rw [h5]; simp
      · rw [decide_eq_true h3, h4, decide_eq_true (show x.f5 ≠ 0 from h5)]; rfl
      · rw [Bool.not_eq_true] at h4; rw [h4]; simp
      · rw [decide_eq_false h3]; rfl
theorem event_j0_s (x : S33) (b : Bool) : Ev (fun k => spec_IsEvent.j0 k b x.f0 x.f1 x.f2 x.f3 x.f4 x.f5 x.f6) (!b && kindB x) := by
  refine Ev.step (fun k => spec_IsEvent.j0.eq_2 _ _ _ _ _ _ _ _ k) ?_
  cases b with
  | true => exact pos rfl (Ev.now _)
  | false =>
    refine neg (by simp) (cong (r := kindB x) ?_ (by simp))
    refine ite_ (fun h => event_j1_s x _ ?_) (fun h => ite_ (fun h2 => event_j1_s x _ ?_) (fun h2 => event_j1_s x _ ?_))
    · rw [beq_dec, Bool.eq_iff_iff]; simp [h]
    · rw [beq_dec, Bool.eq_iff_iff]; simp [h2]
    · rw [beq_dec, Bool.eq_iff_iff]; simp [h, h2]
theorem event_s (x : S33) (hs : x.f3.size ≤ 140737488351232) : Ev (fun k => spec_IsEvent.f k x.f0 x.f1 x.f2 x.f3 x.f4 x.f5 x.f6) (eventB x) := by
  refine known (in_s _ _ _) ?_
  unfold eventB
  refine ite_ (fun h1 => known (in_s _ _ _) (ite_ (fun h2 => Ev.bind (code_s hs) (cong (event_j0_s x _) ?_)) (fun h2 => cong (event_j0_s x _) ?_))) (fun h1 => cong (event_j0_s x _) ?_)
  · rw [h1, h2]; simp
  · rw [Bool.not_eq_true] at h2; rw [h2]; simp
  · rw [Bool.not_eq_true] at h1; rw [h1]; simp
theorem event_j1_e : ∀ k a b c d e f g h i, impl_IsEvent.j1 k a b c d e f g h i = spec_IsEvent.j1 k a b c d e f g h i := by
  intro k a b c d e f g h i
  cases k with
  | zero => rfl
  | succ k => rfl
theorem event_j0_e : ∀ k a c d e f g h i, impl_IsEvent.j0 k a c d e f g h i = spec_IsEvent.j0 k a c d e f g h i := by
  intro k a c d e f g h i
  cases k with
  | zero => rfl
  | succ k => simp only [impl_IsEvent.j0, spec_IsEvent.j0, event_j1_e]
theorem event_i (x : S33) (hs : x.f3.size ≤ 140737488351232) : Ev (fun k => impl_IsEvent.f k x.f0 x.f1 x.f2 x.f3 x.f4 x.f5 x.f6) (eventB x) := by
  refine Ev.congr (fun k => ?_) (event_s x hs)
  unfold impl_IsEvent.f spec_IsEvent.f
  simp only [event_j0_e, in_i, in_s, impl_IsCode.f, spec_IsCode.f, code_l0]
def GoodEv (l : List S33) : Prop := l.length ≤ 2199023255552 ∧ ∀ x ∈ l, x.f3.size ≤ 140737488351232
def cEvent (x : S30) : S33 := ⟨x.f0, x.f1, x.f2, x.f3, x.f4, x.f5, x.f6⟩
theorem toEvent_l0 (l : List S30) (hl : l.length ≤ 2199023255552) : ∀ (d : Nat) (acc : List S33) (i : Int), acc.length = l.length → 0 ≤ i → (l.length : Int) - i = d →
    Ev (fun k => laws_toEventS.l0 k l acc i) (acc.take i.toNat ++ (l.drop i.toNat).map cEvent) := by
  intro d
  induction d with
  | zero =>
    intro acc i ha h0 hd
    refine Ev.step (fun k => laws_toEventS.l0.eq_2 l acc i k) (neg (by omega) (cong (Ev.now _) ?_))
    rw [List.take_of_length_le (by omega), List.drop_of_length_le (by omega)]
    simp
  | succ d ih =>
    intro acc i ha h0 hd
    have hlt : i < (l.length : Int) := by omega
    have hw : wrap64 (i + 1) = i + 1 := wrap_inc h0 hlt (by omega)
    have h := ih (acc.set i.toNat (cEvent (rd_T30 l i))) (i + 1) (by simpa using ha) (by omega) (by omega)
    rw [← hw] at h
    refine Ev.step (fun k => laws_toEventS.l0.eq_2 l acc i k) (pos hlt (pos h0 (known rfl (pos (by omega) (cong h ?_)))))
    rw [hw, show (i + 1).toNat = i.toNat + 1 by omega, set_take _ _ _ _ (by omega), drop_at l z30 i.toNat (by omega)]
    rfl
theorem toEvent_f (l : List S30) (hl : l.length ≤ 2199023255552) : Ev (fun k => laws_toEventS.f k l) (l.map cEvent) := by
  refine pos (by omega) (pos (by simp; omega) (cong (toEvent_l0 l hl l.length (List.replicate ((l.length : Int)).toNat z33) 0 (by simp) (by omega) (by omega)) ?_))
  simp
theorem eqEvent_f (a : List S33) (hl : a.length ≤ 140737488351232) : Ev (fun k => laws_eqEventS.f k a a) true := by
  have key : ∀ (d : Nat) (i : Int), 0 ≤ i → (a.length : Int) - i = d → Ev (fun k => laws_eqEventS.l0 k a a i) true := by
    intro d
    induction d with
    | zero =>
      intro i h0 hd
      exact Ev.step (fun k => laws_eqEventS.l0.eq_2 a a i k) (neg (by omega) (Ev.now _))
    | succ d ih =>
      intro i h0 hd
      have hlt : i < (a.length : Int) := by omega
      have h := ih (i + 1) (by omega) (by omega)
      rw [← wrap_inc h0 hlt (by omega)] at h
      exact Ev.step (fun k => laws_eqEventS.l0.eq_2 a a i k) (pos hlt (pos h0 (pos hlt (known (a := true) (by simp [laws_eqEvent.f]) (pos rfl h)))))
  exact pos rfl (key a.length 0 (by omega) (by omega))
theorem szEvent_f (l : List S30) (hl : l.length ≤ 5864062014634) (hg : ∀ x ∈ l, x.f3.size ≤ 140737488351232) (left : Int) (hlo : -1 ≤ left) (hhi : left ≤ 1048576) : ∃ r, Ev (fun k => laws_szEventS.f k l left) r ∧ -1 ≤ r ∧ r ≤ left ∧ (0 ≤ r → r + l.length ≤ left) := by
  have key : ∀ (d : Nat) (i left : Int), 0 ≤ i → (l.length : Int) - i ≤ d → -1 ≤ left → left ≤ 1048576 → ∃ r, Ev (fun k => laws_szEventS.l0 k l left i) r ∧ -1 ≤ r ∧ r ≤ left := by
    intro d
    induction d with
    | zero =>
      intro i left h0 hd h1 h2
      exact ⟨left, Ev.step (fun k => laws_szEventS.l0.eq_2 l left i k) (neg (by omega) (Ev.now _)), h1, by omega⟩
    | succ d ih =>
      intro i left h0 hd h1 h2
      by_cases hlt : i < (l.length : Int)
      · have hm : rd_T30 l i ∈ l := getD_mem l _ _ (by omega)
        have hs := hg _ hm
        have hw : wrap64 (left - ((rd_T30 l i).f3.size : Int)) = left - ((rd_T30 l i).f3.size : Int) := wrap_in (by omega) (by omega)
        by_cases hneg : left - ((rd_T30 l i).f3.size : Int) < 0
        · exact ⟨-1, Ev.step (fun k => laws_szEventS.l0.eq_2 l left i k) (pos hlt (pos h0 (known (a := -1) (by unfold laws_szEvent.f; rw [hw, if_pos hneg]) (pos (by omega) (Ev.now _))))), by omega, h1⟩
        · obtain ⟨r, hr, h3, h4⟩ := ih (i + 1) (left - ((rd_T30 l i).f3.size : Int)) (by omega) (by omega) (by omega) (by omega)
          rw [← wrap_inc h0 hlt (by omega)] at hr
          exact ⟨r, Ev.step (fun k => laws_szEventS.l0.eq_2 l left i k) (pos hlt (pos h0 (known (a := left - ((rd_T30 l i).f3.size : Int)) (by unfold laws_szEvent.f; rw [hw, if_neg hneg]) (neg hneg hr)))), h3, by omega⟩
      · exact ⟨left, Ev.step (fun k => laws_szEventS.l0.eq_2 l left i k) (neg hlt (Ev.now _)), h1, by omega⟩
  have hw : wrap64 (left - (l.length : Int)) = left - (l.length : Int) := wrap_in (by omega) (by omega)
  by_cases hneg : left - (l.length : Int) < 0
  · exact ⟨-1, pos (by rw [hw]; exact hneg) (Ev.now _), by omega, hlo, by omega⟩
  · obtain ⟨r, hr, h3, h4⟩ := key l.length 0 (left - (l.length : Int)) (by omega) (by omega) (by omega) (by omega)
    rw [← hw] at hr
    exact ⟨r, neg (by rw [hw]; exact hneg) hr, h3, by omega, fun _ => by omega⟩

/-- The words of the five kinds. -/
def kindW (k : Int) : ByteArray := rdOf ByteArray.empty ([(⟨#[66, 85, 89]⟩ : ByteArray), (⟨#[73, 83, 83, 85, 69]⟩ : ByteArray), (⟨#[77, 65, 75, 69]⟩ : ByteArray), (⟨#[83, 69, 76, 76]⟩ : ByteArray), (⟨#[76, 65, 84, 69]⟩ : ByteArray)] : List ByteArray) (k - 1)
theorem kind_cases {P : Int → Prop} {k : Int} (h0 : 1 ≤ k) (h1 : k ≤ 5) (p1 : P 1) (p2 : P 2) (p3 : P 3) (p4 : P 4) (p5 : P 5) : P k := by
  have h : k = 1 ∨ k = 2 ∨ k = 3 ∨ k = 4 ∨ k = 5 := by omega
  rcases h with rfl | rfl | rfl | rfl | rfl <;> assumption
theorem kindW_i {k : Int} (h0 : 1 ≤ k) (h1 : k ≤ 5) : rdOf ByteArray.empty ([(⟨#[]⟩ : ByteArray), (⟨#[66, 85, 89]⟩ : ByteArray), (⟨#[73, 83, 83, 85, 69]⟩ : ByteArray), (⟨#[77, 65, 75, 69]⟩ : ByteArray), (⟨#[83, 69, 76, 76]⟩ : ByteArray), (⟨#[76, 65, 84, 69]⟩ : ByteArray)] : List ByteArray) k = kindW k :=
  kind_cases (P := fun k => rdOf ByteArray.empty ([(⟨#[]⟩ : ByteArray), (⟨#[66, 85, 89]⟩ : ByteArray), (⟨#[73, 83, 83, 85, 69]⟩ : ByteArray), (⟨#[77, 65, 75, 69]⟩ : ByteArray), (⟨#[83, 69, 76, 76]⟩ : ByteArray), (⟨#[76, 65, 84, 69]⟩ : ByteArray)] : List ByteArray) k = kindW k) h0 h1 rfl rfl rfl rfl rfl
theorem kindW_size {k : Int} (h0 : 1 ≤ k) (h1 : k ≤ 5) : (kindW k).size ≤ 5 :=
  kind_cases (P := fun k => (kindW k).size ≤ 5) h0 h1 (by decide) (by decide) (by decide) (by decide) (by decide)
theorem kind_in {x : S33} (h : eventB x = true) : 1 ≤ x.f2 ∧ x.f2 ≤ 5 := by
  unfold eventB at h
  simp only [Bool.and_eq_true] at h
  have hk := h.2.2.2
  unfold kindB at hk
  by_cases h1 : x.f2 = 1 ∨ x.f2 = 3 ∨ x.f2 = 4
  · omega
  · rw [if_neg h1] at hk
    by_cases h2 : x.f2 = 2
    · omega
    · rw [if_neg h2] at hk
      by_cases h3 : x.f2 = 5
      · omega
      · rw [if_neg h3] at hk
        cases hk
def lineL (x : S33) : List ByteArray := [itoaB x.f0, itoaB x.f1, kindW x.f2, x.f3, itoaB x.f4, itoaB x.f5, itoaB x.f6]
noncomputable def evB (x : S33) : ByteArray := if eventB x = true then joinB (lineL x) ++ (⟨#[10]⟩ : ByteArray) else (⟨#[]⟩ : ByteArray)
def Wide (n : Int) : Prop := -9223372036854775808 ≤ n ∧ n ≤ 9223372036854775807
def FineV (x : S33) : Prop := x.f3.size ≤ 1048576 ∧ Wide x.f0 ∧ Wide x.f1 ∧ Wide x.f2 ∧ Wide x.f4 ∧ Wide x.f5 ∧ Wide x.f6
theorem line_size (x : S33) (g : FineV x) (h : eventB x = true) : (lineL x).length + sizes (lineL x) ≤ 1048576 + 200 := by
  obtain ⟨g0, g1, g2, g3, g4, g5, g6⟩ := g
  have h1 := itoaB_size _ g1.1 g1.2
  have h2 := itoaB_size _ g2.1 g2.2
  have h4 := itoaB_size _ g4.1 g4.2
  have h5 := itoaB_size _ g5.1 g5.2
  have h6 := itoaB_size _ g6.1 g6.2
  have hk := kindW_size (kind_in h).1 (kind_in h).2
  unfold lineL sizes
  simp only [List.map_cons, List.map_nil, List.sum_cons, List.sum_nil, List.length_cons, List.length_nil]
  omega
theorem evB_size (x : S33) (g : FineV x) : (evB x).size ≤ 1048576 + 201 := by
  unfold evB
  by_cases h : eventB x = true
  · rw [if_pos h, ByteArray.size_append]
    have h1 := line_size x g h
    have h2 := joinB_size (lineL x)
    have e : (⟨#[10]⟩ : ByteArray).size = 1 := rfl
    omega
  · rw [if_neg h]
    exact Nat.zero_le _
theorem evB_nil (x : S33) : (evB x).toList = [] ↔ ¬ eventB x = true := by
  unfold evB
  by_cases h : eventB x = true
  · rw [if_pos h]
    refine ⟨fun he => ?_, fun hn => absurd h hn⟩
    have h2 := congrArg List.length he
    rw [ByteArray.toList_eq, Go.Joins.data_append] at h2
    simp at h2
  · rw [if_neg h]
    exact ⟨fun _ => h, fun _ => by rw [ByteArray.toList_eq]⟩
theorem ev_s (x : S33) (g : FineV x) : Ev (fun k => spec_FormatEvent.f k x.f0 x.f1 x.f2 x.f3 x.f4 x.f5 x.f6) (evB x) := by
  refine Ev.bind (event_s x (by have := g.1; omega)) ?_
  unfold evB
  by_cases h : eventB x = true
  · rw [if_pos h]
    have hk := kind_in h
    have hl := line_size x g h
    have hj := joinB_size (lineL x)
    obtain ⟨g0, g1, g2, g3, g4, g5, g6⟩ := g
    have e1 : (⟨#[10]⟩ : ByteArray).size = 1 := rfl
    have hw : wrap64 (x.f2 - 1) = x.f2 - 1 := wrap_in (by omega) (by omega)
    refine pos h (known rfl (Ev.bind (num_s _ g1.1 g1.2) (Ev.bind (num_s _ g2.1 g2.2) (pos (by rw [hw]; omega) (pos (by rw [hw]; simp; omega) (Ev.bind (num_s _ g4.1 g4.2) (Ev.bind (num_s _ g5.1 g5.2) (Ev.bind (num_s _ g6.1 g6.2) ?_))))))))
    rw [hw]
    exact Ev.bind (words_s (lineL x) (by omega)) (pos (by omega) (Ev.now _))
  · exact neg h (cong (Ev.now _) (by rw [if_neg h]))
theorem ev_i (x : S33) (g : FineV x) : Ev (fun k => impl_FormatEvent.f k x.f0 x.f1 x.f2 x.f3 x.f4 x.f5 x.f6) (evB x) := by
  refine Ev.bind (event_i x (by have := g.1; omega)) ?_
  unfold evB
  by_cases h : eventB x = true
  · rw [if_pos h]
    have hk := kind_in h
    have hl := line_size x g h
    have hj := joinB_size (lineL x)
    obtain ⟨g0, g1, g2, g3, g4, g5, g6⟩ := g
    have e1 : (⟨#[10]⟩ : ByteArray).size = 1 := rfl
    refine pos h (Ev.bind (num_i _ g1.1 g1.2) (Ev.bind (num_i _ g2.1 g2.2) (known rfl (pos (by omega) (pos (by simp; omega) (Ev.bind (num_i _ g4.1 g4.2) (Ev.bind (num_i _ g5.1 g5.2) (Ev.bind (num_i _ g6.1 g6.2) ?_))))))))
    rw [kindW_i hk.1 hk.2]
    exact Ev.bind (words_i (lineL x) (by simp [lineL]) (by omega)) (pos (by omega) (Ev.now _))
  · exact neg h (cong (Ev.now _) (by rw [if_neg h]))

noncomputable def goJ : List S33 → ByteArray → ByteArray
  | [], acc => acc
  | x :: r, acc => open Classical in if eventB x = true then goJ r (acc ++ evB x) else (⟨#[]⟩ : ByteArray)
noncomputable def jourB (l : List S33) : ByteArray := if l.length ≤ 100 then goJ l (⟨#[]⟩ : ByteArray) else (⟨#[]⟩ : ByteArray)
theorem jour_s (l : List S33) (hl : l.length ≤ 1048576) (g : ∀ x ∈ l, FineV x) : Ev (fun k => spec_FormatJournal.f k l) (jourB l) := by
  unfold jourB
  by_cases hc : l.length ≤ 100
  · rw [if_pos hc]
    have key : ∀ (d : Nat) (i : Int) (acc : ByteArray), 0 ≤ i → (l.length : Int) - i = d → (acc.size : Int) ≤ i * 2000000 → Ev (fun k => spec_FormatJournal.l0 k l acc i) (goJ (l.drop i.toNat) acc) := by
      intro d
      induction d with
      | zero =>
        intro i acc h0 hd hs
        refine Ev.step (fun k => spec_FormatJournal.l0.eq_2 l acc i k) (neg (by omega) (Ev.step (fun k => spec_FormatJournal.j1.eq_2 l acc i false k) (neg (by simp) (cong (Ev.now _) ?_))))
        rw [List.drop_of_length_le (by omega)]
        rfl
      | succ d ih =>
        intro i acc h0 hd hs
        have hlt : i < (l.length : Int) := by omega
        have hm : rd_T33 l i ∈ l := getD_mem l _ _ (by omega)
        have e : l.drop i.toNat = rd_T33 l i :: l.drop (i.toNat + 1) := drop_at l z33 i.toNat (by omega)
        have hz := evB_size _ (g _ hm)
        rw [e]
        refine Ev.step (fun k => spec_FormatJournal.l0.eq_2 l acc i k) (pos hlt (Ev.step (fun k => spec_FormatJournal.j1.eq_2 l acc i _ k) (pos (decide_eq_true (by omega)) (pos h0 (pos hlt (Ev.bind (ev_s _ (g _ hm)) ?_))))))
        unfold goJ
        by_cases hb : eventB (rd_T33 l i) = true
        · rw [if_pos hb]
          refine neg (fun h => (evB_nil _).1 h hb) (pos (by omega) ?_)
          rw [wrap_inc h0 hlt (by omega)]
          have h := ih (i + 1) (acc ++ evB (rd_T33 l i)) (by omega) (by omega) (by rw [ByteArray.size_append]; omega)
          rw [show (i + 1).toNat = i.toNat + 1 by omega] at h
          exact h
        · rw [if_neg hb]
          exact pos ((evB_nil _).2 hb) (Ev.now _)
    exact key l.length 0 _ (by omega) (by omega) (by decide)
  · rw [if_neg hc]
    refine Ev.step (fun k => spec_FormatJournal.l0.eq_2 l _ 0 k) (pos (by omega) (Ev.step (fun k => spec_FormatJournal.j1.eq_2 l _ 0 _ k) (neg (by simp; omega) (Ev.now _))))
theorem jour_i (l : List S33) (hl : l.length ≤ 1048576) (g : ∀ x ∈ l, FineV x) : Ev (fun k => impl_FormatJournal.f k l) (jourB l) := by
  unfold jourB
  by_cases hc : l.length ≤ 100
  · rw [if_pos hc]
    have key : ∀ (d : Nat) (i : Int) (acc : ByteArray), 0 ≤ i → (l.length : Int) - i = d → (acc.size : Int) ≤ i * 2000000 → Ev (fun k => impl_FormatJournal.l0 k acc l (l.length : Int) i) (goJ (l.drop i.toNat) acc) := by
      intro d
      induction d with
      | zero =>
        intro i acc h0 hd hs
        refine Ev.step (fun k => impl_FormatJournal.l0.eq_2 acc l (l.length : Int) i k) (neg (by omega) (cong (Ev.now _) ?_))
        rw [List.drop_of_length_le (by omega)]
        rfl
      | succ d ih =>
        intro i acc h0 hd hs
        have hlt : i < (l.length : Int) := by omega
        have hm : rd_T33 l i ∈ l := getD_mem l _ _ (by omega)
        have e : l.drop i.toNat = rd_T33 l i :: l.drop (i.toNat + 1) := drop_at l z33 i.toNat (by omega)
        have hz := evB_size _ (g _ hm)
        rw [e]
        refine Ev.step (fun k => impl_FormatJournal.l0.eq_2 acc l (l.length : Int) i k) (pos hlt (pos h0 (pos hlt (Ev.bind (event_i _ (by have := (g _ hm).1; omega)) ?_))))
        unfold goJ
        by_cases hb : eventB (rd_T33 l i) = true
        · rw [if_pos hb]
          refine pos hb (Ev.bind (ev_i _ (g _ hm)) (pos (by omega) ?_))
          rw [wrap_inc h0 hlt (by omega)]
          have h := ih (i + 1) (acc ++ evB (rd_T33 l i)) (by omega) (by omega) (by rw [ByteArray.size_append]; omega)
          rw [show (i + 1).toNat = i.toNat + 1 by omega] at h
          exact h
        · rw [if_neg hb]
          exact neg hb (Ev.now _)
    exact neg (by omega) (key l.length 0 _ (by omega) (by omega) (by decide))
  · rw [if_neg hc]
    exact pos (by omega) (Ev.now _)
theorem szEvent_g (l : List S30) (hl : l.length ≤ 5864062014634) (hg : ∀ x ∈ l, x.f3.size ≤ 140737488351232) : ∃ r, Ev (fun k => laws_szEventS.f k l 1048576) r ∧ (0 ≤ r → l.length ≤ 1048576 ∧ ∀ x ∈ l, x.f3.size ≤ 1048576) := by
  have key : ∀ (d : Nat) (i left : Int), 0 ≤ i → (l.length : Int) - i ≤ d → -1 ≤ left → left ≤ 1048576 → ∃ r, Ev (fun k => laws_szEventS.l0 k l left i) r ∧ r ≤ left ∧ (0 ≤ r → ∀ x ∈ l.drop i.toNat, x.f3.size ≤ 1048576) := by
    intro d
    induction d with
    | zero =>
      intro i left h0 hd h1 h2
      refine ⟨left, Ev.step (fun k => laws_szEventS.l0.eq_2 l left i k) (neg (by omega) (Ev.now _)), by omega, fun h => ?_⟩
      rw [List.drop_of_length_le (by omega)]
      intro x hx
      cases hx
    | succ d ih =>
      intro i left h0 hd h1 h2
      by_cases hlt : i < (l.length : Int)
      · have hm : rd_T30 l i ∈ l := getD_mem l _ _ (by omega)
        have hs := hg _ hm
        have hw : wrap64 (left - ((rd_T30 l i).f3.size : Int)) = left - ((rd_T30 l i).f3.size : Int) := wrap_in (by omega) (by omega)
        by_cases hneg : left - ((rd_T30 l i).f3.size : Int) < 0
        · exact ⟨-1, Ev.step (fun k => laws_szEventS.l0.eq_2 l left i k) (pos hlt (pos h0 (known (a := -1) (by unfold laws_szEvent.f; rw [hw, if_pos hneg]) (pos (by omega) (Ev.now _))))), by omega, fun h => by omega⟩
        · obtain ⟨r, hr, h3, h4⟩ := ih (i + 1) (left - ((rd_T30 l i).f3.size : Int)) (by omega) (by omega) (by omega) (by omega)
          rw [← wrap_inc h0 hlt (by omega)] at hr
          refine ⟨r, Ev.step (fun k => laws_szEventS.l0.eq_2 l left i k) (pos hlt (pos h0 (known (a := left - ((rd_T30 l i).f3.size : Int)) (by unfold laws_szEvent.f; rw [hw, if_neg hneg]) (neg hneg hr)))), by omega, fun h => ?_⟩
          have h5 := h4 h
          have e : l.drop i.toNat = rd_T30 l i :: l.drop (i.toNat + 1) := drop_at l _ i.toNat (by omega)
          rw [show (i + 1).toNat = i.toNat + 1 by omega] at h5
          rw [e]
          intro x hx
          rcases List.mem_cons.1 hx with rfl | hx
          · omega
          · exact h5 x hx
      · refine ⟨left, Ev.step (fun k => laws_szEventS.l0.eq_2 l left i k) (neg hlt (Ev.now _)), by omega, fun h => ?_⟩
        rw [List.drop_of_length_le (by omega)]
        intro x hx
        cases hx
  have hw : wrap64 (1048576 - (l.length : Int)) = 1048576 - (l.length : Int) := wrap_in (by omega) (by omega)
  by_cases hneg : 1048576 - (l.length : Int) < 0
  · exact ⟨-1, pos (by rw [hw]; exact hneg) (Ev.now _), fun h => by omega⟩
  · obtain ⟨r, hr, h3, h4⟩ := key l.length 0 (1048576 - (l.length : Int)) (by omega) (by omega) (by omega) (by omega)
    rw [← hw] at hr
    refine ⟨r, neg (by rw [hw]; exact hneg) hr, fun h => ⟨by omega, ?_⟩⟩
    have := h4 h
    simpa using this
theorem FnExactFormatJournal (l : List S30) (g : l.length * 64 ≤ 140737488351232 ∧ ∀ x ∈ l, (Lit.int .i64 x.f0).wf = true ∧ (Lit.int .i64 x.f1).wf = true ∧ (Lit.int .i64 x.f2).wf = true ∧ x.f3.size ≤ 140737488351232 ∧ (Lit.int .i64 x.f4).wf = true ∧ (Lit.int .i64 x.f5).wf = true ∧ (Lit.int .i64 x.f6).wf = true) : ∃ k, laws_FnExactFormatJournal.f k l = some true := by
  obtain ⟨r, hr, hb⟩ := szEvent_g l (by omega) (fun x hx => (g.2 x hx).2.2.2.1)
  have hto := toEvent_f l (by omega)
  refine Ev.rounds (Ev.bind hr ?_)
  by_cases hn : r < 0
  · exact pos hn (Ev.now _)
  · have hh := hb (by omega)
    have hf : ∀ x ∈ l.map cEvent, FineV x := fun x hx => by
      obtain ⟨y, hy, rfl⟩ := List.mem_map.1 hx
      obtain ⟨g0, g1, g2, g3, g4, g5, g6⟩ := g.2 y hy
      exact ⟨hh.2 y hy, wf_lo g0, wf_lo g1, wf_lo g2, wf_lo g4, wf_lo g5, wf_lo g6⟩
    have hl : (l.map cEvent).length ≤ 1048576 := by rw [List.length_map]; exact hh.1
    exact neg hn (Ev.bind hto (Ev.bind (jour_s _ hl hf) (Ev.bind hto (Ev.bind (jour_i _ hl hf) (pos rfl (Ev.bind hto (Ev.bind (eqEvent_f _ (by omega)) (pos rfl (Ev.now _)))))))))

end Go.Proofs.YtgllggmaiapeoaaDoor.PureFnExactFormatJournal
