/- Plain laws for FnExactFormatEntries (what the printed functions compute). -/
import Derived.Test.YtgllggmaiapeoaaDoorPFnExactFormatEntriesx3
import Derived.Test.YtgllggmaiapeoaaDoorEv
import Derived.Lib.ItoaLen
import Derived.Lib.SmallJoins
namespace Go.Proofs.YtgllggmaiapeoaaDoor.PureFnExactFormatEntries
open Go.RowKit Go.Proofs.YtgllggmaiapeoaaDoor.PFnExactFormatEntries Go.Proofs.YtgllggmaiapeoaaDoorW.PrintWords Go.Proofs.YtgllggmaiapeoaaDoorW.PrintLast Go.Proofs.YtgllggmaiapeoaaDoorW.PrintMore Go.Proofs.YtgllggmaiapeoaaDoorEv
set_option linter.unusedVariables false
def mkB (l : List UInt8) : ByteArray := ⟨l.toArray⟩
theorem mkB_list (l : List UInt8) : (mkB l).data.toList = l := rfl
theorem mkB_size (l : List UInt8) : (mkB l).size = l.length := rfl
theorem mkB_self (s : ByteArray) : mkB s.data.toList = s := rfl
theorem B_ext {a b : ByteArray} (h : a.data.toList = b.data.toList) : a = b := by
  cases a; cases b
  simp only [ByteArray.mk.injEq]
  exact Array.toList_inj.1 h
theorem mkB_app (a b : List UInt8) : mkB a ++ mkB b = mkB (a ++ b) := B_ext (by rw [Go.Joins.data_append]; rfl)
theorem mkB_cons (c : UInt8) (b : List UInt8) : (⟨#[c]⟩ : ByteArray) ++ mkB b = mkB (c :: b) := mkB_app [c] b
theorem itoaB_mk (n : Int) : itoaB n = mkB (Lib.itoa n) := rfl
theorem joinB_mk (xs : List ByteArray) : joinB xs = mkB (Lib.join (xs.map (·.data.toList)) [32]) := rfl
theorem itoaB_size (n : Int) (h0 : -9223372036854775808 ≤ n) (h1 : n ≤ 9223372036854775807) : (itoaB n).size ≤ 21 := Lib.itoa_length_le n h0 h1
/-- The digits of a number, none for 0. -/
def digs (u : Nat) : List UInt8 := if u = 0 then [] else Lib.decDigits u
theorem digs_step (u : Nat) (h : u ≠ 0) : digs u = digs (u / 10) ++ [UInt8.ofNat (48 + u % 10)] := by
  unfold digs
  rw [if_neg h, Lib.decDigits]
  by_cases h1 : u < 10
  · rw [dif_pos h1, if_pos (by omega), Nat.mod_eq_of_lt h1]
    rfl
  · rw [dif_neg h1, if_neg (by omega)]
theorem digit_ex (r : Nat) (h : r < 10) : (⟨#[48, 49, 50, 51, 52, 53, 54, 55, 56, 57]⟩ : ByteArray).extract r (r + 1) = mkB [UInt8.ofNat (48 + r)] := by
  have : ∀ r : Fin 10, ((⟨#[48, 49, 50, 51, 52, 53, 54, 55, 56, 57]⟩ : ByteArray).extract r.val (r.val + 1)).data.toList = [UInt8.ofNat (48 + r.val)] := by decide
  exact B_ext (this ⟨r, h⟩)
def numEnd (n : Int) (s : List UInt8) : ByteArray := if n = 0 then (⟨#[48]⟩ : ByteArray) else if n < 0 then mkB (45 :: s) else mkB s
theorem tdiv_abs (x : Int) : (Int.tdiv x 10).natAbs = x.natAbs / 10 := by
  rw [Int.natAbs_tdiv]
  rfl
theorem num_l0 (n : Int) : ∀ (d : Nat) (x : Int) (s : List UInt8), x.natAbs < 10 ^ d → d + s.length ≤ 100 → -9223372036854775808 ≤ x → x ≤ 9223372036854775807 → Ev (fun k => spec_FormatInt.l0 k n (mkB s) x) (numEnd n (digs x.natAbs ++ s)) := by
  intro d
  induction d with
  | zero =>
    intro x s hx hd h0 h1
    have hx0 : x = 0 := by simp at hx; omega
    subst hx0
    refine Ev.step (fun k => spec_FormatInt.l0.eq_2 n (mkB s) 0 k) (pos rfl ?_)
    unfold numEnd
    refine ite_ (fun h => cong (Ev.now _) (by rw [if_pos h])) (fun h => ite_ (fun h2 => pos (by rw [mkB_size]; omega) (cong (Ev.now _) ?_)) (fun h2 => cong (Ev.now _) ?_))
    · rw [if_neg h, if_pos h2]
      exact mkB_cons 45 s
    · rw [if_neg h, if_neg h2]
      rfl
  | succ d ih =>
    intro x s hx hd h0 h1
    by_cases hx0 : x = 0
    · subst hx0
      refine Ev.step (fun k => spec_FormatInt.l0.eq_2 n (mkB s) 0 k) (pos rfl ?_)
      unfold numEnd
      refine ite_ (fun h => cong (Ev.now _) (by rw [if_pos h])) (fun h => ite_ (fun h2 => pos (by rw [mkB_size]; omega) (cong (Ev.now _) ?_)) (fun h2 => cong (Ev.now _) ?_))
      · rw [if_neg h, if_pos h2]
        exact mkB_cons 45 s
      · rw [if_neg h, if_neg h2]
        rfl
    · have hab := tdiv_abs x
      have hb : -9223372036854775808 ≤ Int.tdiv x 10 ∧ Int.tdiv x 10 ≤ 9223372036854775807 := by omega
      have hr : x.natAbs % 10 < 10 := Nat.mod_lt _ (by omega)
      have hm : Int.tmod x 10 = if x < 0 then -((x.natAbs % 10 : Nat) : Int) else ((x.natAbs % 10 : Nat) : Int) := by
        have := Int.tmod_add_mul_tdiv x 10
        by_cases hn : x < 0
        · rw [if_pos hn]
          have : 0 ≤ -x := by omega
          have e : Int.tmod x 10 = -(Int.tmod (-x) 10) := by rw [Int.neg_tmod]; omega
          rw [e, Int.tmod_eq_emod_of_nonneg this]
          omega
        · rw [if_neg hn, Int.tmod_eq_emod_of_nonneg (by omega)]
          omega
      have hpow : (Int.tdiv x 10).natAbs < 10 ^ d := by
        rw [hab]
        rw [Nat.pow_succ] at hx
        omega
      have h := ih (Int.tdiv x 10) (UInt8.ofNat (48 + x.natAbs % 10) :: s) hpow (by simp; omega) hb.1 hb.2
      have e2 : numEnd n (digs (Int.tdiv x 10).natAbs ++ UInt8.ofNat (48 + x.natAbs % 10) :: s) = numEnd n (digs x.natAbs ++ s) := by
        rw [hab, digs_step x.natAbs (by omega)]
        simp
      rw [e2] at h
      have hw : wrap64 (Int.tdiv x 10) = Int.tdiv x 10 := wrap_in hb.1 hb.2
      have fin : ∀ (z : Int), z = ((x.natAbs % 10 : Nat) : Int) → (⟨#[48, 49, 50, 51, 52, 53, 54, 55, 56, 57]⟩ : ByteArray).extract z.toNat (wrap64 (z + 1)).toNat = mkB [UInt8.ofNat (48 + x.natAbs % 10)] ∧ 0 ≤ z ∧ z ≤ wrap64 (z + 1) ∧ wrap64 (z + 1) ≤ 10 := by
        intro z hz
        have e : wrap64 (z + 1) = z + 1 := wrap_in (by omega) (by omega)
        rw [e]
        refine ⟨?_, by omega, by omega, by omega⟩
        rw [show (z + 1).toNat = x.natAbs % 10 + 1 by omega, show z.toNat = x.natAbs % 10 by omega]
        exact digit_ex _ hr
      refine Ev.step (fun k => spec_FormatInt.l0.eq_2 n (mkB s) x k) (neg hx0 ?_)
      have go : ∀ (z : Int), z = ((x.natAbs % 10 : Nat) : Int) → Ev (fun k => if 0 ≤ z then (if z ≤ wrap64 (z + 1) then (if wrap64 (z + 1) ≤ 10 then (if ((⟨#[48, 49, 50, 51, 52, 53, 54, 55, 56, 57]⟩ : ByteArray).extract z.toNat (wrap64 (z + 1)).toNat).size + (mkB s).size ≤ 9223372036854775807 then (spec_FormatInt.l0 k n (((⟨#[48, 49, 50, 51, 52, 53, 54, 55, 56, 57]⟩ : ByteArray).extract z.toNat (wrap64 (z + 1)).toNat) ++ mkB s) (wrap64 (Int.tdiv x 10))) else none) else none) else none) else none) (numEnd n (digs x.natAbs ++ s)) := by
        intro z hz
        obtain ⟨f1, f2, f3, f4⟩ := fin z hz
        refine pos f2 (pos f3 (pos f4 ?_))
        rw [f1, hw]
        refine pos (by rw [mkB_size, mkB_size]; simp; omega) ?_
        rw [mkB_app]
        exact h
      by_cases hneg : Int.tmod x 10 < 0
      · have hxn : x < 0 := by
          by_cases hn : x < 0
          · exact hn
          · rw [if_neg hn] at hm; omega
        rw [if_pos hxn] at hm
        have hz : wrap64 (-(Int.tmod x 10)) = ((x.natAbs % 10 : Nat) : Int) := by
          rw [wrap_in (by omega) (by omega)]
          omega
        exact pos hneg (go _ hz)
      · have hz : Int.tmod x 10 = ((x.natAbs % 10 : Nat) : Int) := by
          by_cases hn : x < 0
          · rw [if_pos hn] at hm; omega
          · rw [if_neg hn] at hm; exact hm
        exact neg hneg (go _ hz)
theorem num_s (n : Int) (h0 : -9223372036854775808 ≤ n) (h1 : n ≤ 9223372036854775807) : Ev (fun k => spec_FormatInt.f k n) (itoaB n) := by
  refine cong (num_l0 n 19 n [] (by omega) (by simp) h0 h1) ?_
  unfold numEnd digs
  rw [itoaB_mk]
  unfold Lib.itoa
  by_cases h : n = 0
  · subst h
    rw [if_pos rfl, if_neg (by omega), Lib.decDigits, dif_pos (by decide)]
    rfl
  · rw [if_neg h, List.append_nil]
    have hz : ¬ n.natAbs = 0 := by omega
    by_cases h2 : n < 0
    · rw [if_pos h2, if_pos h2, if_neg hz]
    · rw [if_neg h2, if_neg h2, if_neg hz, show n.natAbs = n.toNat by omega]
theorem num_i (n : Int) (h0 : -9223372036854775808 ≤ n) (h1 : n ≤ 9223372036854775807) : Ev (fun k => impl_FormatInt.f k n) (itoaB n) := cong (r := itoaB n) (pos ⟨h0, h1⟩ (Ev.now _)) rfl
/-- The words' lengths, added up. -/
def sizes (l : List ByteArray) : Nat := (l.map (·.size)).sum
theorem lens_sizes (l : List ByteArray) : Lib.lens (l.map (·.data.toList)) = sizes l := by
  unfold Lib.lens sizes
  rw [List.map_map]
  rfl
theorem join_len (l : List ByteArray) : (Lib.join (l.map (·.data.toList)) [32]).length ≤ l.length + sizes l := by
  cases l with
  | nil => simp [Lib.join_nil]
  | cons x r =>
    rw [List.map_cons, Lib.join_cons, List.length_append, Lib.joinTail_length, lens_sizes]
    unfold sizes
    rw [List.map_cons, List.sum_cons, List.length_map, List.length_cons]
    have e : x.size = x.data.toList.length := rfl
    simp only [List.length_cons, List.length_nil]
    omega
theorem joinB_size (l : List ByteArray) : (joinB l).size ≤ l.length + sizes l := join_len l
theorem words_i (l : List ByteArray) (h : 0 < l.length) (hs : l.length + sizes l ≤ 1000000000) : Ev (fun k => impl_JoinWords.f k l) (joinB l) := pos ⟨h, by omega, by have := join_len l; omega⟩ (Ev.now _)
theorem words_l0 (l : List ByteArray) : ∀ (d : Nat) (i : Int) (acc : List UInt8), 0 < i → (l.length : Int) - i = d → acc.length + (Lib.joinTail [32] ((l.drop i.toNat).map (·.data.toList))).length ≤ 1000000000 → l.length ≤ 1000000000 → Ev (fun k => spec_JoinWords.l0 k l (mkB acc) i) (mkB (acc ++ Lib.joinTail [32] ((l.drop i.toNat).map (·.data.toList)))) := by
  intro d
  induction d with
  | zero =>
    intro i acc h0 hd hs hl
    refine Ev.step (fun k => spec_JoinWords.l0.eq_2 l (mkB acc) i k) (neg (by omega) (cong (Ev.now _) ?_))
    rw [List.drop_of_length_le (by omega)]
    simp [Lib.joinTail]
  | succ d ih =>
    intro i acc h0 hd hs hl
    have hlt : i < (l.length : Int) := by omega
    have e : l.drop i.toNat = rdOf ByteArray.empty l i :: l.drop (i.toNat + 1) := drop_at l ByteArray.empty i.toNat (by omega)
    have ej : Lib.joinTail [32] ((l.drop i.toNat).map (·.data.toList)) = 32 :: (rdOf ByteArray.empty l i).data.toList ++ Lib.joinTail [32] ((l.drop (i.toNat + 1)).map (·.data.toList)) := by
      rw [e, List.map_cons]
      simp [Lib.joinTail]
    rw [ej] at hs ⊢
    have hsz : (rdOf ByteArray.empty l i).size = (rdOf ByteArray.empty l i).data.toList.length := rfl
    simp only [List.length_append, List.length_cons] at hs
    have h := ih (i + 1) (acc ++ 32 :: (rdOf ByteArray.empty l i).data.toList) (by omega) (by omega) (by rw [show (i + 1).toNat = i.toNat + 1 by omega]; simp only [List.length_append, List.length_cons]; omega) hl
    rw [show (i + 1).toNat = i.toNat + 1 by omega, ← wrap_inc (by omega) hlt (by omega)] at h
    have e1 : mkB acc ++ (⟨#[32]⟩ : ByteArray) = mkB (acc ++ [32]) := mkB_app acc [32]
    have e2 : mkB (acc ++ [32]) ++ rdOf ByteArray.empty l i = mkB (acc ++ 32 :: (rdOf ByteArray.empty l i).data.toList) := by
      rw [← mkB_self (rdOf ByteArray.empty l i), mkB_app]
      simp [mkB_list]
    refine Ev.step (fun k => spec_JoinWords.l0.eq_2 l (mkB acc) i k) (pos hlt (pos h0 (pos (by rw [mkB_size]; omega) (pos (by omega) ?_))))
    rw [e1]
    refine pos (by rw [mkB_size]; simp only [List.length_append, List.length_cons, List.length_nil]; omega) ?_
    rw [e2]
    exact cong h (by simp)
theorem words_s (l : List ByteArray) (hs : l.length + sizes l ≤ 1000000000) : Ev (fun k => spec_JoinWords.f k l) (joinB l) := by
  cases l with
  | nil =>
    refine Ev.step (fun k => spec_JoinWords.l0.eq_2 [] _ 0 k) (neg (by simp) (cong (Ev.now _) ?_))
    rfl
  | cons x r =>
    have hl := join_len (x :: r)
    rw [List.map_cons, Lib.join_cons, List.length_append] at hl
    have h := words_l0 (x :: r) r.length 1 x.data.toList (by omega) (by simp) (by simpa using (by omega : x.data.toList.length + (Lib.joinTail [32] (r.map (·.data.toList))).length ≤ 1000000000)) (by omega)
    rw [show (1 : Int).toNat = 1 from rfl, List.drop_succ_cons, List.drop_zero] at h
    have e : joinB (x :: r) = mkB (x.data.toList ++ Lib.joinTail [32] (r.map (·.data.toList))) := by rw [joinB_mk, List.map_cons, Lib.join_cons]
    rw [← e] at h
    have hx : x.size ≤ 1000000000 := by
      have : x.size = x.data.toList.length := rfl
      omega
    refine Ev.step (fun k => spec_JoinWords.l0.eq_2 (x :: r) _ 0 k) (pos (by simp) (neg (by omega) (pos (by omega) (pos ?_ ?_))))
    · show 0 + x.size ≤ _
      omega
    · have e1 : (⟨#[]⟩ : ByteArray) ++ rdOf ByteArray.empty (x :: r) 0 = mkB x.data.toList := B_ext (by rw [Go.Joins.data_append]; rfl)
      rw [e1, show wrap64 (0 + 1) = (1 : Int) from wrap_in (by omega) (by omega)]
      exact h

/-- Lists of entries of sizes that lie in memory. -/
def GoodE (l : List S47) : Prop := l.length ≤ 5864062014634 ∧ ∀ x ∈ l, x.f0.size ≤ 140737488351232
def cEntry (x : S45) : S47 := ⟨x.f0, x.f1⟩
theorem toEntry_l0 (l : List S45) (hl : l.length ≤ 5864062014634) : ∀ (d : Nat) (acc : List S47) (i : Int), acc.length = l.length → 0 ≤ i → (l.length : Int) - i = d →
    Ev (fun k => laws_toEntryS.l0 k l acc i) (acc.take i.toNat ++ (l.drop i.toNat).map cEntry) := by
  intro d
  induction d with
  | zero =>
    intro acc i ha h0 hd
    refine Ev.step (fun k => laws_toEntryS.l0.eq_2 l acc i k) (neg (by omega) (cong (Ev.now _) ?_))
    rw [List.take_of_length_le (by omega), List.drop_of_length_le (by omega)]
    simp
  | succ d ih =>
    intro acc i ha h0 hd
    have hlt : i < (l.length : Int) := by omega
    have hw : wrap64 (i + 1) = i + 1 := wrap_inc h0 hlt (by omega)
    have h := ih (acc.set i.toNat (cEntry (rd_T45 l i))) (i + 1) (by simpa using ha) (by omega) (by omega)
    rw [← hw] at h
    refine Ev.step (fun k => laws_toEntryS.l0.eq_2 l acc i k) (pos hlt (pos h0 (known rfl (pos (by omega) (cong h ?_)))))
    rw [hw, show (i + 1).toNat = i.toNat + 1 by omega, set_take _ _ _ _ (by omega), drop_at l z45 i.toNat (by omega)]
    rfl
theorem toEntry_f (l : List S45) (hl : l.length ≤ 5864062014634) : Ev (fun k => laws_toEntryS.f k l) (l.map cEntry) := by
  refine pos (by omega) (pos (by simp; omega) (cong (toEntry_l0 l hl l.length (List.replicate ((l.length : Int)).toNat z47) 0 (by simp) (by omega) (by omega)) ?_))
  simp
theorem eqEntry_f (a : List S47) (hl : a.length ≤ 5864062014634) : Ev (fun k => laws_eqEntryS.f k a a) true := by
  have key : ∀ (d : Nat) (i : Int), 0 ≤ i → (a.length : Int) - i = d → Ev (fun k => laws_eqEntryS.l0 k a a i) true := by
    intro d
    induction d with
    | zero =>
      intro i h0 hd
      exact Ev.step (fun k => laws_eqEntryS.l0.eq_2 a a i k) (neg (by omega) (Ev.now _))
    | succ d ih =>
      intro i h0 hd
      have hlt : i < (a.length : Int) := by omega
      have h := ih (i + 1) (by omega) (by omega)
      rw [← wrap_inc h0 hlt (by omega)] at h
      exact Ev.step (fun k => laws_eqEntryS.l0.eq_2 a a i k) (pos hlt (pos h0 (pos hlt (known (show laws_eqEntry.f _ _ _ _ = some true by simp [laws_eqEntry.f]) (pos rfl h)))))
  exact pos rfl (key a.length 0 (by omega) (by omega))
theorem szEntry_f (l : List S45) (hl : l.length ≤ 5864062014634) (hg : ∀ x ∈ l, x.f0.size ≤ 140737488351232) (left : Int) (hlo : -1 ≤ left) (hhi : left ≤ 1048576) : ∃ r, Ev (fun k => laws_szEntryS.f k l left) r ∧ -1 ≤ r ∧ r ≤ left ∧ (0 ≤ r → r + l.length ≤ left) := by
  have key : ∀ (d : Nat) (i left : Int), 0 ≤ i → (l.length : Int) - i ≤ d → -1 ≤ left → left ≤ 1048576 → ∃ r, Ev (fun k => laws_szEntryS.l0 k l left i) r ∧ -1 ≤ r ∧ r ≤ left := by
    intro d
    induction d with
    | zero =>
      intro i left h0 hd h1 h2
      exact ⟨left, Ev.step (fun k => laws_szEntryS.l0.eq_2 l left i k) (neg (by omega) (Ev.now _)), h1, by omega⟩
    | succ d ih =>
      intro i left h0 hd h1 h2
      by_cases hlt : i < (l.length : Int)
      · have hm : rd_T45 l i ∈ l := getD_mem l _ _ (by omega)
        have hs := hg _ hm
        have hw : wrap64 (left - ((rd_T45 l i).f0.size : Int)) = left - ((rd_T45 l i).f0.size : Int) := wrap_in (by omega) (by omega)
        by_cases hneg : left - ((rd_T45 l i).f0.size : Int) < 0
        · exact ⟨-1, Ev.step (fun k => laws_szEntryS.l0.eq_2 l left i k) (pos hlt (pos h0 (known (a := -1) (by unfold laws_szEntry.f; rw [hw, if_pos hneg]) (pos (by omega) (Ev.now _))))), by omega, h1⟩
        · obtain ⟨r, hr, h3, h4⟩ := ih (i + 1) (left - ((rd_T45 l i).f0.size : Int)) (by omega) (by omega) (by omega) (by omega)
          rw [← wrap_inc h0 hlt (by omega)] at hr
          exact ⟨r, Ev.step (fun k => laws_szEntryS.l0.eq_2 l left i k) (pos hlt (pos h0 (known (a := left - ((rd_T45 l i).f0.size : Int)) (by unfold laws_szEntry.f; rw [hw, if_neg hneg]) (neg hneg hr)))), h3, by omega⟩
      · exact ⟨left, Ev.step (fun k => laws_szEntryS.l0.eq_2 l left i k) (neg hlt (Ev.now _)), h1, by omega⟩
  have hw : wrap64 (left - (l.length : Int)) = left - (l.length : Int) := wrap_in (by omega) (by omega)
  by_cases hneg : left - (l.length : Int) < 0
  · exact ⟨-1, pos (by rw [hw]; exact hneg) (Ev.now _), by omega, hlo, by omega⟩
  · obtain ⟨r, hr, h3, h4⟩ := key l.length 0 (left - (l.length : Int)) (by omega) (by omega) (by omega) (by omega)
    rw [← hw] at hr
    exact ⟨r, neg (by rw [hw]; exact hneg) hr, h3, by omega, fun _ => by omega⟩

def wordB (x : S47) : ByteArray := (x.f0 ++ (⟨#[58]⟩ : ByteArray)) ++ itoaB x.f1
def fmtB (l : List S47) : ByteArray := if l = [] then (⟨#[110, 111, 110, 101]⟩ : ByteArray) else joinB (l.map wordB)
def FineE (l : List S47) : Prop := l.length + (l.map (fun x => x.f0.size)).sum ≤ 1048576 ∧ ∀ x ∈ l, -9223372036854775808 ≤ x.f1 ∧ x.f1 ≤ 9223372036854775807
theorem wordB_size (x : S47) (h : -9223372036854775808 ≤ x.f1 ∧ x.f1 ≤ 9223372036854775807) : (wordB x).size ≤ x.f0.size + 22 := by
  unfold wordB
  rw [ByteArray.size_append, ByteArray.size_append]
  have := itoaB_size x.f1 h.1 h.2
  have e : (⟨#[58]⟩ : ByteArray).size = 1 := rfl
  omega
theorem words_size (l : List S47) (h : ∀ x ∈ l, -9223372036854775808 ≤ x.f1 ∧ x.f1 ≤ 9223372036854775807) : sizes (l.map wordB) ≤ (l.map (fun x => x.f0.size)).sum + 22 * l.length := by
  induction l with
  | nil => simp [sizes]
  | cons x r ih =>
    have h1 := wordB_size x (h x (List.mem_cons_self ..))
    have h2 := ih (fun y hy => h y (List.mem_cons_of_mem _ hy))
    simp only [sizes, List.map_cons, List.sum_cons, List.length_cons] at h2 ⊢
    omega
theorem size_mem (l : List S47) : ∀ x ∈ l, x.f0.size ≤ (l.map (fun x => x.f0.size)).sum := fun x hx => le_sum (List.mem_map.2 ⟨x, hx, rfl⟩)
theorem fmt_s (l : List S47) (g : FineE l) : Ev (fun k => spec_FormatEntries.f k l) (fmtB l) := by
  have hz := words_size l g.2
  have hb := g.1
  have key : ∀ (d : Nat) (i : Int), 0 ≤ i → (l.length : Int) - i = d → Ev (fun k => spec_FormatEntries.l0 k l ((l.take i.toNat).map wordB) i) (fmtB l) := by
    intro d
    induction d with
    | zero =>
      intro i h0 hd
      rw [List.take_of_length_le (by omega)]
      refine Ev.step (fun k => spec_FormatEntries.l0.eq_2 l (l.map wordB) i k) (neg (by omega) ?_)
      unfold fmtB
      refine ite_ (fun h => cong (Ev.now _) ?_) (fun h => Ev.bind (words_s (l.map wordB) (by rw [List.length_map]; omega)) (cong (Ev.now _) ?_))
      · have : l = [] := List.length_eq_zero_iff.1 (by simpa using h)
        rw [if_pos this]
      · rw [if_neg (fun e => h (by rw [e]; rfl))]
    | succ d ih =>
      intro i h0 hd
      have hlt : i < (l.length : Int) := by omega
      have hm : rd_T47 l i ∈ l := getD_mem l _ _ (by omega)
      have h := ih (i + 1) (by omega) (by omega)
      have h1 := size_mem l _ hm
      have h2 := itoaB_size _ (g.2 _ hm).1 (g.2 _ hm).2
      rw [← wrap_inc h0 hlt (by omega)] at h
      rw [wrap_inc h0 hlt (by omega), show (i + 1).toNat = i.toNat + 1 by omega] at h
      have et : (l.take (i.toNat + 1)).map wordB = (l.take i.toNat).map wordB ++ [wordB (rd_T47 l i)] := by
        rw [List.take_succ_eq_append_getElem (by omega), List.map_append]
        congr 1
        unfold rd_T47
        rw [List.getD_eq_getElem?_getD, List.getElem?_eq_getElem (by omega)]
        rfl
      rw [et, ← wrap_inc h0 hlt (by omega)] at h
      refine Ev.step (fun k => spec_FormatEntries.l0.eq_2 l ((l.take i.toNat).map wordB) i k) (pos hlt (pos h0 (pos (by omega) (Ev.bind (num_s _ (g.2 _ hm).1 (g.2 _ hm).2) (pos ?_ (pos ?_ h))))))
      · rw [ByteArray.size_append]
        have e : (⟨#[58]⟩ : ByteArray).size = 1 := rfl
        omega
      · rw [List.length_map, List.length_take]
        omega
  exact key l.length 0 (by omega) (by omega)
theorem fmt_i (l : List S47) (g : FineE l) : Ev (fun k => impl_FormatEntries.f k l) (fmtB l) := by
  have hz := words_size l g.2
  have hb := g.1
  by_cases hl : l = []
  · refine pos (by rw [hl]; rfl) (cong (Ev.now _) ?_)
    unfold fmtB
    rw [if_pos hl]
  have hpos : 0 < l.length := List.length_pos_iff.2 hl
  refine neg (by omega) ?_
  have key : ∀ (d : Nat) (i : Int), 0 ≤ i → (l.length : Int) - i = d → Ev (fun k => impl_FormatEntries.l0 k ((l.take i.toNat).map wordB) l (l.length : Int) i) (fmtB l) := by
    intro d
    induction d with
    | zero =>
      intro i h0 hd
      rw [List.take_of_length_le (by omega)]
      refine Ev.step (fun k => impl_FormatEntries.l0.eq_2 (l.map wordB) l (l.length : Int) i k) (neg (by omega) ?_)
      unfold fmtB
      refine Ev.bind (words_i (l.map wordB) (by rw [List.length_map]; omega) (by rw [List.length_map]; omega)) (cong (Ev.now _) ?_)
      rw [if_neg hl]
    | succ d ih =>
      intro i h0 hd
      have hlt : i < (l.length : Int) := by omega
      have hm : rd_T47 l i ∈ l := getD_mem l _ _ (by omega)
      have h := ih (i + 1) (by omega) (by omega)
      have h1 := size_mem l _ hm
      have h2 := itoaB_size _ (g.2 _ hm).1 (g.2 _ hm).2
      rw [show (i + 1).toNat = i.toNat + 1 by omega] at h
      have et : (l.take (i.toNat + 1)).map wordB = (l.take i.toNat).map wordB ++ [wordB (rd_T47 l i)] := by
        rw [List.take_succ_eq_append_getElem (by omega), List.map_append]
        congr 1
        unfold rd_T47
        rw [List.getD_eq_getElem?_getD, List.getElem?_eq_getElem (by omega)]
        rfl
      rw [et, ← wrap_inc h0 hlt (by omega)] at h
      refine Ev.step (fun k => impl_FormatEntries.l0.eq_2 ((l.take i.toNat).map wordB) l (l.length : Int) i k) (pos hlt (pos h0 (pos hlt (pos (by omega) (Ev.bind (num_i _ (g.2 _ hm).1 (g.2 _ hm).2) (pos ?_ (pos ?_ h)))))))
      · rw [ByteArray.size_append]
        have e : (⟨#[58]⟩ : ByteArray).size = 1 := rfl
        omega
      · rw [List.length_map, List.length_take]
        omega
  exact key l.length 0 (by omega) (by omega)
theorem szEntry_g (l : List S45) (hl : l.length ≤ 5864062014634) (hg : ∀ x ∈ l, x.f0.size ≤ 140737488351232) : ∃ r, Ev (fun k => laws_szEntryS.f k l 1048576) r ∧ (0 ≤ r → l.length + (l.map (fun x => x.f0.size)).sum ≤ 1048576) := by
  have key : ∀ (d : Nat) (i left : Int), 0 ≤ i → (l.length : Int) - i ≤ d → -1 ≤ left → left ≤ 1048576 → ∃ r, Ev (fun k => laws_szEntryS.l0 k l left i) r ∧ r ≤ left ∧ (0 ≤ r → ((((l.drop i.toNat).map (fun x => x.f0.size)).sum : Nat) : Int) ≤ left) := by
    intro d
    induction d with
    | zero =>
      intro i left h0 hd h1 h2
      refine ⟨left, Ev.step (fun k => laws_szEntryS.l0.eq_2 l left i k) (neg (by omega) (Ev.now _)), by omega, fun h => ?_⟩
      rw [List.drop_of_length_le (by omega)]
      simpa using h
    | succ d ih =>
      intro i left h0 hd h1 h2
      by_cases hlt : i < (l.length : Int)
      · have hm : rd_T45 l i ∈ l := getD_mem l _ _ (by omega)
        have hs := hg _ hm
        have hw : wrap64 (left - ((rd_T45 l i).f0.size : Int)) = left - ((rd_T45 l i).f0.size : Int) := wrap_in (by omega) (by omega)
        by_cases hneg : left - ((rd_T45 l i).f0.size : Int) < 0
        · exact ⟨-1, Ev.step (fun k => laws_szEntryS.l0.eq_2 l left i k) (pos hlt (pos h0 (known (a := -1) (by unfold laws_szEntry.f; rw [hw, if_pos hneg]) (pos (by omega) (Ev.now _))))), by omega, fun h => by omega⟩
        · obtain ⟨r, hr, h3, h4⟩ := ih (i + 1) (left - ((rd_T45 l i).f0.size : Int)) (by omega) (by omega) (by omega) (by omega)
          rw [← wrap_inc h0 hlt (by omega)] at hr
          refine ⟨r, Ev.step (fun k => laws_szEntryS.l0.eq_2 l left i k) (pos hlt (pos h0 (known (a := left - ((rd_T45 l i).f0.size : Int)) (by unfold laws_szEntry.f; rw [hw, if_neg hneg]) (neg hneg hr)))), by omega, fun h => ?_⟩
          have h5 := h4 h
          have e : l.drop i.toNat = rd_T45 l i :: l.drop (i.toNat + 1) := drop_at l _ i.toNat (by omega)
          rw [show (i + 1).toNat = i.toNat + 1 by omega] at h5
          rw [e, List.map_cons, List.sum_cons]
          omega
      · refine ⟨left, Ev.step (fun k => laws_szEntryS.l0.eq_2 l left i k) (neg hlt (Ev.now _)), by omega, fun h => ?_⟩
        rw [List.drop_of_length_le (by omega)]
        simpa using h
  have hw : wrap64 (1048576 - (l.length : Int)) = 1048576 - (l.length : Int) := wrap_in (by omega) (by omega)
  by_cases hneg : 1048576 - (l.length : Int) < 0
  · exact ⟨-1, pos (by rw [hw]; exact hneg) (Ev.now _), fun h => by omega⟩
  · obtain ⟨r, hr, h3, h4⟩ := key l.length 0 (1048576 - (l.length : Int)) (by omega) (by omega) (by omega) (by omega)
    rw [← hw] at hr
    refine ⟨r, neg (by rw [hw]; exact hneg) hr, fun h => ?_⟩
    have := h4 h
    simp only [Int.toNat_zero, List.drop_zero] at this
    omega
theorem FnExactFormatEntries (l : List S45) (g : l.length * 24 ≤ 140737488351232 ∧ ∀ x ∈ l, x.f0.size ≤ 140737488351232 ∧ (Lit.int .i64 x.f1).wf = true) : ∃ k, laws_FnExactFormatEntries.f k l = some true := by
  obtain ⟨r, hr, hb⟩ := szEntry_g l (by omega) (fun x hx => (g.2 x hx).1)
  have hto := toEntry_f l (by omega)
  refine Ev.rounds (Ev.bind hr ?_)
  by_cases hn : r < 0
  · exact pos hn (Ev.now _)
  · have hf : FineE (l.map cEntry) := by
      refine ⟨?_, fun x hx => ?_⟩
      · have := hb (by omega)
        rw [List.length_map, List.map_map]
        simpa [cEntry, Function.comp_def] using this
      · obtain ⟨y, hy, rfl⟩ := List.mem_map.1 hx
        exact wf_lo (g.2 y hy).2
    exact neg hn (Ev.bind hto (Ev.bind (fmt_s _ hf) (Ev.bind hto (Ev.bind (fmt_i _ hf) (pos rfl (Ev.bind hto (Ev.bind (eqEntry_f _ (by rw [List.length_map]; omega)) (pos rfl (Ev.now _)))))))))

end Go.Proofs.YtgllggmaiapeoaaDoor.PureFnExactFormatEntries
