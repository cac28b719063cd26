/- Plain laws for FnExactClosePeriod (what the printed functions compute). -/
import Derived.Test.YtjhjeghgeclglaaPFnExactClosePeriodx
import Derived.Test.YtjhjeghgeclglaaEv
import Derived.Test.YtjhjeghgeclglaaWkFnExactClosePeriod
namespace Go.Proofs.Ytjhjeghgeclglaa.PureFnExactClosePeriod
open Go.RowKit Go.Proofs.Ytjhjeghgeclglaa.PFnExactClosePeriod Go.Proofs.YtjhjeghgeclglaaW.PrintWords Go.Proofs.YtjhjeghgeclglaaW.PrintLast Go.Proofs.YtjhjeghgeclglaaW.PrintMore Go.Proofs.YtjhjeghgeclglaaEv
set_option linter.unusedVariables false
def inB (a b c : Int) : Bool := decide (a ≥ b) && decide (a ≤ c)
theorem inB_iff {a b c : Int} : inB a b c = true ↔ b ≤ a ∧ a ≤ c := by simp [inB]
theorem in_s (a b c : Int) : spec_l1In.f a b c = some (inB a b c) := by
  unfold spec_l1In.f inB
  by_cases h : a ≥ b <;> simp [h]
theorem in_i (a b c : Int) : impl_in.f a b c = some (inB a b c) := in_s a b c
theorem code_ex (s : ByteArray) (hs : s.size ≤ 140737488351232) : ∃ b, Ev (fun k => spec_IsCode.f k s) b := by
  have key : ∀ (d : Nat) (i : Int), 0 ≤ i → (s.size : Int) - i ≤ d → ∃ b, Ev (fun k => spec_IsCode.l0 k s i) b := by
    intro d
    induction d with
    | zero =>
      intro i h0 hd
      refine ex_step (fun k => spec_IsCode.l0.eq_2 s i k) ?_
      repeat (first | exact ex_now _ | (exfalso; omega) | refine ex_ite (fun _ => ?_) (fun _ => ?_))
    | succ d ih =>
      intro i h0 hd
      refine ex_step (fun k => spec_IsCode.l0.eq_2 s i k) ?_
      refine ex_ite (fun hlt => ?_) (fun _ => ?_)
      · have hw : wrap64 (i + 1) = i + 1 := wrap_inc h0 hlt (by omega)
        have ih' := ih (i + 1) (by omega) (by omega)
        rw [hw]
        repeat (first | exact ex_now _ | exact ih' | (exfalso; omega) | refine ex_ite (fun _ => ?_) (fun _ => ?_))
      · repeat (first | exact ex_now _ | refine ex_ite (fun _ => ?_) (fun _ => ?_))
  exact key s.size 0 (by omega) (by omega)
open Classical in
noncomputable def codeB (s : ByteArray) : Bool := if h : ∃ b, Ev (fun k => spec_IsCode.f k s) b then h.choose else false
theorem code_s {s : ByteArray} (hs : s.size ≤ 140737488351232) : Ev (fun k => spec_IsCode.f k s) (codeB s) := by
  have h := code_ex s hs
  unfold codeB
  rw [dif_pos h]
  exact h.choose_spec
theorem code_l0 : ∀ k s i, impl_IsCode.l0 k s i = spec_IsCode.l0 k s i := by
  intro k
  induction k with
  | zero => intros; rfl
  | succ k ih => intro s i; simp only [impl_IsCode.l0, spec_IsCode.l0, ih]
theorem code_i {s : ByteArray} (hs : s.size ≤ 140737488351232) : Ev (fun k => impl_IsCode.f k s) (codeB s) := Ev.congr (fun k => code_l0 k s 0) (code_s hs)

/-- Lists of entries of sizes that lie in memory. -/
def GoodE (l : List S51) : Prop := l.length ≤ 5864062014634 ∧ ∀ x ∈ l, x.f0.size ≤ 140737488351232
def cEntry (x : S102) : S51 := ⟨x.f0, x.f1⟩
theorem toEntry_l0 (l : List S102) (hl : l.length ≤ 5864062014634) : ∀ (d : Nat) (acc : List S51) (i : Int), acc.length = l.length → 0 ≤ i → (l.length : Int) - i = d →
    Ev (fun k => laws_toEntryS.l0 k l acc i) (acc.take i.toNat ++ (l.drop i.toNat).map cEntry) := by
  intro d
  induction d with
  | zero =>
    intro acc i ha h0 hd
    refine Ev.step (fun k => laws_toEntryS.l0.eq_2 l acc i k) (neg (by omega) (cong (Ev.now _) ?_))
    rw [List.take_of_length_le (by omega), List.drop_of_length_le (by omega)]
    simp
  | succ d ih =>
    intro acc i ha h0 hd
    have hlt : i < (l.length : Int) := by omega
    have hw : wrap64 (i + 1) = i + 1 := wrap_inc h0 hlt (by omega)
    have h := ih (acc.set i.toNat (cEntry (rd_T102 l i))) (i + 1) (by simpa using ha) (by omega) (by omega)
    rw [← hw] at h
    refine Ev.step (fun k => laws_toEntryS.l0.eq_2 l acc i k) (pos hlt (pos h0 (known rfl (pos (by omega) (cong h ?_)))))
    rw [hw, show (i + 1).toNat = i.toNat + 1 by omega, set_take _ _ _ _ (by omega), drop_at l z102 i.toNat (by omega)]
    rfl
theorem toEntry_f (l : List S102) (hl : l.length ≤ 5864062014634) : Ev (fun k => laws_toEntryS.f k l) (l.map cEntry) := by
  refine pos (by omega) (pos (by simp; omega) (cong (toEntry_l0 l hl l.length (List.replicate ((l.length : Int)).toNat z51) 0 (by simp) (by omega) (by omega)) ?_))
  simp
theorem eqEntry_f (a : List S51) (hl : a.length ≤ 5864062014634) : Ev (fun k => laws_eqEntryS.f k a a) true := by
  have key : ∀ (d : Nat) (i : Int), 0 ≤ i → (a.length : Int) - i = d → Ev (fun k => laws_eqEntryS.l0 k a a i) true := by
    intro d
    induction d with
    | zero =>
      intro i h0 hd
      exact Ev.step (fun k => laws_eqEntryS.l0.eq_2 a a i k) (neg (by omega) (Ev.now _))
    | succ d ih =>
      intro i h0 hd
      have hlt : i < (a.length : Int) := by omega
      have h := ih (i + 1) (by omega) (by omega)
      rw [← wrap_inc h0 hlt (by omega)] at h
      exact Ev.step (fun k => laws_eqEntryS.l0.eq_2 a a i k) (pos hlt (pos h0 (pos hlt (known (show laws_eqEntry.f _ _ _ _ = some true by simp [laws_eqEntry.f]) (pos rfl h)))))
  exact pos rfl (key a.length 0 (by omega) (by omega))
theorem szEntry_f (l : List S102) (hl : l.length ≤ 5864062014634) (hg : ∀ x ∈ l, x.f0.size ≤ 140737488351232) (left : Int) (hlo : -1 ≤ left) (hhi : left ≤ 1048576) : ∃ r, Ev (fun k => laws_szEntryS.f k l left) r ∧ -1 ≤ r ∧ r ≤ left ∧ (0 ≤ r → r + l.length ≤ left) := by
  have key : ∀ (d : Nat) (i left : Int), 0 ≤ i → (l.length : Int) - i ≤ d → -1 ≤ left → left ≤ 1048576 → ∃ r, Ev (fun k => laws_szEntryS.l0 k l left i) r ∧ -1 ≤ r ∧ r ≤ left := by
    intro d
    induction d with
    | zero =>
      intro i left h0 hd h1 h2
      exact ⟨left, Ev.step (fun k => laws_szEntryS.l0.eq_2 l left i k) (neg (by omega) (Ev.now _)), h1, by omega⟩
    | succ d ih =>
      intro i left h0 hd h1 h2
      by_cases hlt : i < (l.length : Int)
      · have hm : rd_T102 l i ∈ l := getD_mem l _ _ (by omega)
        have hs := hg _ hm
        have hw : wrap64 (left - ((rd_T102 l i).f0.size : Int)) = left - ((rd_T102 l i).f0.size : Int) := wrap_in (by omega) (by omega)
        by_cases hneg : left - ((rd_T102 l i).f0.size : Int) < 0
        · exact ⟨-1, Ev.step (fun k => laws_szEntryS.l0.eq_2 l left i k) (pos hlt (pos h0 (known (a := -1) (by unfold laws_szEntry.f; rw [hw, if_pos hneg]) (pos (by omega) (Ev.now _))))), by omega, h1⟩
        · obtain ⟨r, hr, h3, h4⟩ := ih (i + 1) (left - ((rd_T102 l i).f0.size : Int)) (by omega) (by omega) (by omega) (by omega)
          rw [← wrap_inc h0 hlt (by omega)] at hr
          exact ⟨r, Ev.step (fun k => laws_szEntryS.l0.eq_2 l left i k) (pos hlt (pos h0 (known (a := left - ((rd_T102 l i).f0.size : Int)) (by unfold laws_szEntry.f; rw [hw, if_neg hneg]) (neg hneg hr)))), h3, by omega⟩
      · exact ⟨left, Ev.step (fun k => laws_szEntryS.l0.eq_2 l left i k) (neg hlt (Ev.now _)), h1, by omega⟩
  have hw : wrap64 (left - (l.length : Int)) = left - (l.length : Int) := wrap_in (by omega) (by omega)
  by_cases hneg : left - (l.length : Int) < 0
  · exact ⟨-1, pos (by rw [hw]; exact hneg) (Ev.now _), by omega, hlo, by omega⟩
  · obtain ⟨r, hr, h3, h4⟩ := key l.length 0 (left - (l.length : Int)) (by omega) (by omega) (by omega) (by omega)
    rw [← hw] at hr
    exact ⟨r, neg (by rw [hw]; exact hneg) hr, h3, by omega, fun _ => by omega⟩
noncomputable def entOk (x : S51) : Bool := codeB x.f0 && (inB x.f1 (-1000000000) 1000000000 && decide (x.f1 ≠ 0))
theorem entOk_iff {x : S51} : entOk x = true ↔ codeB x.f0 = true ∧ (-1000000000 ≤ x.f1 ∧ x.f1 ≤ 1000000000) ∧ x.f1 ≠ 0 := by simp [entOk, inB_iff]
def sumW (acc : Int) (l : List S51) : Int := l.foldl (fun s x => wrap64 (s + x.f1)) acc
noncomputable def entriesB (l : List S51) : Bool := l.all entOk && (inB l.length 2 12 && decide (sumW 0 l = 0))
theorem entries_s (l : List S51) (hg : l.length ≤ 5864062014634 ∧ ∀ x ∈ l, x.f0.size ≤ 140737488351232) : Ev (fun k => spec_AreEntries.f k l) (entriesB l) := by
  have key : ∀ (d : Nat) (acc i : Int), 0 ≤ i → (l.length : Int) - i = d → Ev (fun k => spec_AreEntries.l0 k l acc i) ((l.drop i.toNat).all entOk && (inB l.length 2 12 && decide (sumW acc (l.drop i.toNat) = 0))) := by
    intro d
    induction d with
    | zero =>
      intro acc i h0 hd
      have e : l.drop i.toNat = [] := List.drop_of_length_le (by omega)
      rw [e]
      refine Ev.step (fun k => spec_AreEntries.l0.eq_2 l acc i k) (neg (by omega) ?_)
      by_cases ha : acc = 0
      · exact pos ha (known (in_s _ _ _) (cong (Ev.now _) (by simp [sumW, ha])))
      · exact neg ha (cong (Ev.now _) (by simp [sumW, ha]))
    | succ d ih =>
      intro acc i h0 hd
      have hlt : i < (l.length : Int) := by omega
      have e : l.drop i.toNat = rd_T51 l i :: l.drop (i.toNat + 1) := drop_at l z51 i.toNat (by omega)
      have hm : rd_T51 l i ∈ l := getD_mem l _ _ (by omega)
      have h := ih (wrap64 (acc + (rd_T51 l i).f1)) (i + 1) (by omega) (by omega)
      rw [show (i + 1).toNat = i.toNat + 1 by omega, ← wrap_inc h0 hlt (by omega)] at h
      rw [e, List.all_cons]
      refine Ev.step (fun k => spec_AreEntries.l0.eq_2 l acc i k) (pos hlt (pos h0 (Ev.bind (code_s (hg.2 _ hm)) ?_)))
      by_cases h1 : codeB (rd_T51 l i).f0 = true
      · refine pos h1 ?_
        by_cases h2 : (rd_T51 l i).f1 = 0
        · exact pos h2 (cong (Ev.now _) (by simp [entOk, h2]))
        · refine neg h2 (known (in_s _ _ _) ?_)
          by_cases h3 : inB (rd_T51 l i).f1 (-1000000000) 1000000000 = true
          · exact pos h3 (cong h (by rw [show entOk (rd_T51 l i) = true by simp [entOk, h1, h2, h3], Bool.true_and]; rfl))
          · exact neg h3 (cong (Ev.now _) (by rw [Bool.not_eq_true] at h3; simp [entOk, h3]))
      · exact neg h1 (cong (Ev.now _) (by rw [Bool.not_eq_true] at h1; simp [entOk, h1]))
  exact key l.length 0 0 (by omega) (by omega)
theorem entries_i (l : List S51) (hg : l.length ≤ 5864062014634 ∧ ∀ x ∈ l, x.f0.size ≤ 140737488351232) : Ev (fun k => impl_AreEntries.f k l) (entriesB l) := by
  have key : ∀ (d : Nat) (acc i : Int), 0 ≤ i → (l.length : Int) - i = d → Ev (fun k => impl_AreEntries.l0 k l acc l l.length i) ((l.drop i.toNat).all entOk && (inB l.length 2 12 && decide (sumW acc (l.drop i.toNat) = 0))) := by
    intro d
    induction d with
    | zero =>
      intro acc i h0 hd
      have e : l.drop i.toNat = [] := List.drop_of_length_le (by omega)
      rw [e]
      refine Ev.step (fun k => impl_AreEntries.l0.eq_2 l acc l l.length i k) (neg (by omega) (known (in_i _ _ _) ?_))
      by_cases ha : inB (l.length : Int) 2 12 = true
      · exact pos ha (cong (Ev.now _) (by rw [ha, Bool.true_and]; show (acc == 0) = (true && decide (acc = 0)); rw [Bool.true_and, Bool.eq_iff_iff, beq_iff_eq, decide_eq_true_iff]))
      · exact neg ha (cong (Ev.now _) (by rw [Bool.not_eq_true] at ha; simp [ha]))
    | succ d ih =>
      intro acc i h0 hd
      have hlt : i < (l.length : Int) := by omega
      have e : l.drop i.toNat = rd_T51 l i :: l.drop (i.toNat + 1) := drop_at l z51 i.toNat (by omega)
      have hm : rd_T51 l i ∈ l := getD_mem l _ _ (by omega)
      have h := ih (wrap64 (acc + (rd_T51 l i).f1)) (i + 1) (by omega) (by omega)
      rw [show (i + 1).toNat = i.toNat + 1 by omega, ← wrap_inc h0 hlt (by omega)] at h
      rw [e, List.all_cons]
      refine Ev.step (fun k => impl_AreEntries.l0.eq_2 l acc l l.length i k) (pos hlt (pos h0 (pos hlt (Ev.bind (code_i (hg.2 _ hm)) ?_))))
      by_cases h1 : codeB (rd_T51 l i).f0 = true
      · refine pos h1 (known (in_i _ _ _) ?_)
        by_cases h3 : inB (rd_T51 l i).f1 (-1000000000) 1000000000 = true
        · refine pos h3 ?_
          by_cases h2 : (rd_T51 l i).f1 = 0
          · exact pos h2 (cong (Ev.now _) (by simp [entOk, h2]))
          · exact neg h2 (cong h (by rw [show entOk (rd_T51 l i) = true by simp [entOk, h1, h2, h3], Bool.true_and]; rfl))
        · exact neg h3 (cong (Ev.now _) (by rw [Bool.not_eq_true] at h3; simp [entOk, h3]))
      · exact neg h1 (cong (Ev.now _) (by rw [Bool.not_eq_true] at h1; simp [entOk, h1]))
  exact key l.length 0 0 (by omega) (by omega)

def GoodD (l : List S66) : Prop := l.length ≤ 7036874417766 ∧ ∀ d ∈ l, d.f2.length ≤ 5864062014634 ∧ ∀ x ∈ d.f2, x.f0.size ≤ 140737488351232
noncomputable def docOk (i : Int) (d : S66) : Bool := decide (d.f0 = i + 1) && (inB d.f1 0 999 && entriesB d.f2)
noncomputable def docsFrom : Int → List S66 → Bool
  | _, [] => true
  | i, d :: r => docOk i d && docsFrom (i + 1) r
noncomputable def docsB (l : List S66) : Bool := docsFrom 0 l && decide ((l.length : Int) ≤ 120)
theorem docs_s (l : List S66) (hg : GoodD l) : Ev (fun k => spec_AreDocuments.f k l) (docsB l) := by
  have hlen : l.length ≤ 7036874417766 := hg.1
  have key : ∀ (d : Nat) (i : Int), 0 ≤ i → (l.length : Int) - i = d → Ev (fun k => spec_AreDocuments.l0 k l i) (docsFrom i (l.drop i.toNat) && decide ((l.length : Int) ≤ 120)) := by
    intro d
    induction d with
    | zero =>
      intro i h0 hd
      have e : l.drop i.toNat = [] := List.drop_of_length_le (by omega)
      rw [e]
      exact Ev.step (fun k => spec_AreDocuments.l0.eq_2 l i k) (neg (by omega) (cong (Ev.now _) (by simp [docsFrom])))
    | succ d ih =>
      intro i h0 hd
      have hlt : i < (l.length : Int) := by omega
      have e : l.drop i.toNat = rd_T66 l i :: l.drop (i.toNat + 1) := drop_at l z66 i.toNat (by omega)
      have hm : rd_T66 l i ∈ l := getD_mem l _ _ (by omega)
      have hw : wrap64 (i + 1) = i + 1 := wrap_inc h0 hlt (by omega)
      have h := ih (i + 1) (by omega) (by omega)
      rw [show (i + 1).toNat = i.toNat + 1 by omega] at h
      rw [e]
      refine Ev.step (fun k => spec_AreDocuments.l0.eq_2 l i k) ?_
      rw [hw]
      refine pos hlt (pos h0 ?_)
      by_cases h1 : (rd_T66 l i).f0 = i + 1
      · refine pos h1 (known (in_s _ _ _) ?_)
        by_cases h2 : inB (rd_T66 l i).f1 0 999 = true
        · refine pos h2 (Ev.bind (entries_s _ (hg.2 _ hm)) ?_)
          by_cases h3 : entriesB (rd_T66 l i).f2 = true
          · exact pos h3 (cong h (by simp [docsFrom, docOk, h1, h2, h3]))
          · exact neg h3 (cong (Ev.now _) (by rw [Bool.not_eq_true] at h3; simp [docsFrom, docOk, h3]))
        · exact neg h2 (cong (Ev.now _) (by rw [Bool.not_eq_true] at h2; simp [docsFrom, docOk, h2]))
      · exact neg h1 (cong (Ev.now _) (by simp [docsFrom, docOk, h1]))
  exact key l.length 0 (by omega) (by omega)
theorem docs_i (l : List S66) (hg : GoodD l) : Ev (fun k => impl_AreDocuments.f k l) (docsB l) := by
  have hlen : l.length ≤ 7036874417766 := hg.1
  have key : ∀ (d : Nat) (i : Int), 0 ≤ i → (l.length : Int) - i = d → Ev (fun k => impl_AreDocuments.l0 k l l l.length i) (docsFrom i (l.drop i.toNat) && decide ((l.length : Int) ≤ 120)) := by
    intro d
    induction d with
    | zero =>
      intro i h0 hd
      have e : l.drop i.toNat = [] := List.drop_of_length_le (by omega)
      rw [e]
      exact Ev.step (fun k => impl_AreDocuments.l0.eq_2 l l l.length i k) (neg (by omega) (cong (Ev.now _) (by simp [docsFrom])))
    | succ d ih =>
      intro i h0 hd
      have hlt : i < (l.length : Int) := by omega
      have e : l.drop i.toNat = rd_T66 l i :: l.drop (i.toNat + 1) := drop_at l z66 i.toNat (by omega)
      have hm : rd_T66 l i ∈ l := getD_mem l _ _ (by omega)
      have hw : wrap64 (i + 1) = i + 1 := wrap_inc h0 hlt (by omega)
      have h := ih (i + 1) (by omega) (by omega)
      rw [show (i + 1).toNat = i.toNat + 1 by omega] at h
      rw [e]
      refine Ev.step (fun k => impl_AreDocuments.l0.eq_2 l l l.length i k) ?_
      rw [hw]
      refine pos hlt (pos h0 (pos hlt ?_))
      by_cases h1 : (rd_T66 l i).f0 = i + 1
      · refine pos h1 (known (in_i _ _ _) ?_)
        by_cases h2 : inB (rd_T66 l i).f1 0 999 = true
        · refine pos h2 (Ev.bind (entries_i _ (hg.2 _ hm)) ?_)
          by_cases h3 : entriesB (rd_T66 l i).f2 = true
          · exact pos h3 (cong h (by simp [docsFrom, docOk, h1, h2, h3]))
          · exact neg h3 (cong (Ev.now _) (by rw [Bool.not_eq_true] at h3; simp [docsFrom, docOk, h3]))
        · exact neg h2 (cong (Ev.now _) (by rw [Bool.not_eq_true] at h2; simp [docsFrom, docOk, h2]))
      · exact neg h1 (cong (Ev.now _) (by simp [docsFrom, docOk, h1]))
  exact key l.length 0 (by omega) (by omega)
def balE (a : ByteArray) (acc : Int) (l : List S51) : Int := l.foldl (fun s x => if x.f0.toList = a.toList then wrap64 (s + x.f1) else s) acc
def balD (a : ByteArray) (day : Int) (acc : Int) (l : List S66) : Int := l.foldl (fun s d => if d.f1 ≤ day then balE a s d.f2 else s) acc
noncomputable def balR (l : List S66) (a : ByteArray) (day : Int) : Int := if docsB l = true then balD a day 0 l else 0
theorem bal_s (l : List S66) (hg : GoodD l) (a : ByteArray) (day : Int) : Ev (fun k => spec_BalanceOf.f k l a day) (balR l a day) := by
  have hlen : l.length ≤ 7036874417766 := hg.1
  by_cases hv : docsB l = true
  · have inner : ∀ (i : Int) (F : Int → Int), 0 ≤ i → i < (l.length : Int) → (∀ acc, Ev (fun k => spec_BalanceOf.l0 k l a day acc (i + 1)) (F acc)) → ∀ (d : Nat) (acc j : Int), 0 ≤ j → ((rd_T66 l i).f2.length : Int) - j = d →
        Ev (fun k => spec_BalanceOf.l1 k l a day acc i j) (F (if (rd_T66 l i).f1 ≤ day then balE a acc ((rd_T66 l i).f2.drop j.toNat) else acc)) := by
      intro i F h0 hlt hF d
      have hm : rd_T66 l i ∈ l := getD_mem l _ _ (by omega)
      have hlm : (rd_T66 l i).f2.length ≤ 5864062014634 := (hg.2 _ hm).1
      have hw : wrap64 (i + 1) = i + 1 := wrap_inc h0 hlt (by omega)
      induction d with
      | zero =>
        intro acc j hj0 hd
        have e : (rd_T66 l i).f2.drop j.toNat = [] := List.drop_of_length_le (by omega)
        rw [e]
        refine Ev.step (fun k => spec_BalanceOf.l1.eq_2 l a day acc i j k) (pos h0 (pos hlt (neg (by omega) (Ev.step (fun k => spec_BalanceOf.j3.eq_2 l a day acc i j false k) (neg (by simp) ?_)))))
        rw [hw]
        exact cong (hF acc) (by simp [balE])
      | succ d ih =>
        intro acc j hj0 hd
        have hjl : j < ((rd_T66 l i).f2.length : Int) := by omega
        have hwj : wrap64 (j + 1) = j + 1 := wrap_inc hj0 hjl (by omega)
        refine Ev.step (fun k => spec_BalanceOf.l1.eq_2 l a day acc i j k) (pos h0 (pos hlt (pos hjl (Ev.step (fun k => spec_BalanceOf.j3.eq_2 l a day acc i j _ k) ?_))))
        rw [hw, hwj]
        by_cases hday : (rd_T66 l i).f1 ≤ day
        · have e : (rd_T66 l i).f2.drop j.toNat = rd_T51 (rd_T66 l i).f2 j :: (rd_T66 l i).f2.drop (j.toNat + 1) := drop_at _ z51 j.toNat (by omega)
          refine pos (by simp [hday]) (pos h0 (pos hlt (pos hj0 (pos hjl ?_))))
          rw [if_pos hday, e]
          by_cases hacc : (rd_T51 (rd_T66 l i).f2 j).f0.toList = a.toList
          · have h := ih (wrap64 (acc + (rd_T51 (rd_T66 l i).f2 j).f1)) (j + 1) (by omega) (by omega)
            rw [if_pos hday, show (j + 1).toNat = j.toNat + 1 by omega] at h
            exact pos hacc (cong h (by simp [balE, hacc]))
          · have h := ih acc (j + 1) (by omega) (by omega)
            rw [if_pos hday, show (j + 1).toNat = j.toNat + 1 by omega] at h
            exact neg hacc (cong h (by simp [balE, hacc]))
        · rw [if_neg hday]
          exact neg (by simp [hday]) (hF acc)
    have key : ∀ (d : Nat) (acc i : Int), 0 ≤ i → (l.length : Int) - i = d → Ev (fun k => spec_BalanceOf.l0 k l a day acc i) (balD a day acc (l.drop i.toNat)) := by
      intro d
      induction d with
      | zero =>
        intro acc i h0 hd
        have e : l.drop i.toNat = [] := List.drop_of_length_le (by omega)
        rw [e]
        exact Ev.step (fun k => spec_BalanceOf.l0.eq_2 l a day acc i k) (neg (by omega) (Ev.step (fun k => spec_BalanceOf.j1.eq_2 l a day acc i false k) (neg (by simp) (cong (Ev.now _) (by simp [balD])))))
      | succ d ih =>
        intro acc i h0 hd
        have hlt : i < (l.length : Int) := by omega
        have e : l.drop i.toNat = rd_T66 l i :: l.drop (i.toNat + 1) := drop_at l z66 i.toNat (by omega)
        refine Ev.step (fun k => spec_BalanceOf.l0.eq_2 l a day acc i k) (pos hlt (Ev.bind (docs_s l hg) (Ev.step (fun k => spec_BalanceOf.j1.eq_2 l a day acc i _ k) (pos hv ?_))))
        have hin := inner i (fun acc => balD a day acc (l.drop (i.toNat + 1))) h0 hlt (fun acc => by
          have h := ih acc (i + 1) (by omega) (by omega)
          rwa [show (i + 1).toNat = i.toNat + 1 by omega] at h) (rd_T66 l i).f2.length acc 0 (by omega) (by omega)
        refine cong hin ?_
        rw [e]
        simp [balD]
    unfold balR
    rw [if_pos hv]
    exact key l.length 0 0 (by omega) (by omega)
  · unfold balR
    rw [if_neg hv]
    refine Ev.step (fun k => spec_BalanceOf.l0.eq_2 l a day 0 0 k) ?_
    by_cases h0 : (0 : Int) < (l.length : Int)
    · exact pos h0 (Ev.bind (docs_s l hg) (Ev.step (fun k => spec_BalanceOf.j1.eq_2 l a day 0 0 _ k) (neg hv (Ev.now _))))
    · exact neg h0 (Ev.step (fun k => spec_BalanceOf.j1.eq_2 l a day 0 0 _ k) (neg (by simp) (Ev.now _)))
theorem bal_i (l : List S66) (hg : GoodD l) (a : ByteArray) (day : Int) : Ev (fun k => impl_BalanceOf.f k l a day) (balR l a day) := by
  have hlen : l.length ≤ 7036874417766 := hg.1
  refine Ev.bind (docs_i l hg) ?_
  unfold balR
  by_cases hv : docsB l = true
  · rw [if_pos hv]
    refine pos hv ?_
    have inner : ∀ (i : Int) (F : Int → Int), 0 ≤ i → i < (l.length : Int) → (∀ acc, Ev (fun k => impl_BalanceOf.l0 k a day acc l l.length (i + 1)) (F acc)) → ∀ (d : Nat) (acc j : Int), 0 ≤ j → ((rd_T66 l i).f2.length : Int) - j = d →
        Ev (fun k => impl_BalanceOf.l1 k a day acc l l.length i (rd_T66 l i).f2 ((rd_T66 l i).f2.length : Int) j (rd_T66 l i).f0 (rd_T66 l i).f1 (rd_T66 l i).f2) (F (if (rd_T66 l i).f1 ≤ day then balE a acc ((rd_T66 l i).f2.drop j.toNat) else acc)) := by
      intro i F h0 hlt hF d
      have hm : rd_T66 l i ∈ l := getD_mem l _ _ (by omega)
      have hlm : (rd_T66 l i).f2.length ≤ 5864062014634 := (hg.2 _ hm).1
      have hw : wrap64 (i + 1) = i + 1 := wrap_inc h0 hlt (by omega)
      induction d with
      | zero =>
        intro acc j hj0 hd
        have e : (rd_T66 l i).f2.drop j.toNat = [] := List.drop_of_length_le (by omega)
        rw [e]
        refine Ev.step (fun k => impl_BalanceOf.l1.eq_2 a day acc l l.length i _ _ j _ _ _ k) (neg (by omega) ?_)
        rw [hw]
        exact cong (hF acc) (by simp [balE])
      | succ d ih =>
        intro acc j hj0 hd
        have hjl : j < ((rd_T66 l i).f2.length : Int) := by omega
        have hwj : wrap64 (j + 1) = j + 1 := wrap_inc hj0 hjl (by omega)
        refine Ev.step (fun k => impl_BalanceOf.l1.eq_2 a day acc l l.length i _ _ j _ _ _ k) ?_
        rw [hwj]
        refine pos hjl (pos hj0 (pos hjl ?_))
        have e : (rd_T66 l i).f2.drop j.toNat = rd_T51 (rd_T66 l i).f2 j :: (rd_T66 l i).f2.drop (j.toNat + 1) := drop_at _ z51 j.toNat (by omega)
        by_cases hday : (rd_T66 l i).f1 ≤ day
        · rw [if_pos hday, e]
          refine pos hday ?_
          by_cases hacc : (rd_T51 (rd_T66 l i).f2 j).f0.toList = a.toList
          · have h := ih (wrap64 (acc + (rd_T51 (rd_T66 l i).f2 j).f1)) (j + 1) (by omega) (by omega)
            rw [if_pos hday, show (j + 1).toNat = j.toNat + 1 by omega] at h
            exact pos hacc (cong h (by simp [balE, hacc]))
          · have h := ih acc (j + 1) (by omega) (by omega)
            rw [if_pos hday, show (j + 1).toNat = j.toNat + 1 by omega] at h
            exact neg hacc (cong h (by simp [balE, hacc]))
        · have h := ih acc (j + 1) (by omega) (by omega)
          rw [if_neg hday] at h
          rw [if_neg hday]
          exact neg hday h
    have key : ∀ (d : Nat) (acc i : Int), 0 ≤ i → (l.length : Int) - i = d → Ev (fun k => impl_BalanceOf.l0 k a day acc l l.length i) (balD a day acc (l.drop i.toNat)) := by
      intro d
      induction d with
      | zero =>
        intro acc i h0 hd
        have e : l.drop i.toNat = [] := List.drop_of_length_le (by omega)
        rw [e]
        exact Ev.step (fun k => impl_BalanceOf.l0.eq_2 a day acc l l.length i k) (neg (by omega) (cong (Ev.now _) (by simp [balD])))
      | succ d ih =>
        intro acc i h0 hd
        have hlt : i < (l.length : Int) := by omega
        have e : l.drop i.toNat = rd_T66 l i :: l.drop (i.toNat + 1) := drop_at l z66 i.toNat (by omega)
        refine Ev.step (fun k => impl_BalanceOf.l0.eq_2 a day acc l l.length i k) (pos hlt (pos h0 (pos hlt ?_)))
        have hin := inner i (fun acc => balD a day acc (l.drop (i.toNat + 1))) h0 hlt (fun acc => by
          have h := ih acc (i + 1) (by omega) (by omega)
          rwa [show (i + 1).toNat = i.toNat + 1 by omega] at h) (rd_T66 l i).f2.length acc 0 (by omega) (by omega)
        refine cong hin ?_
        rw [e]
        simp [balD]
    exact key l.length 0 0 (by omega) (by omega)
  · rw [if_neg hv]
    exact neg hv (Ev.now _)
def cDocument (x : S64) : S66 := ⟨x.f0, x.f1, x.f2.map cEntry⟩
theorem toDocument_l0 (l : List S64) (hl : l.length ≤ 3518437208780) (hg : ∀ x ∈ l, x.f2.length ≤ 5864062014634) : ∀ (d : Nat) (acc : List S66) (i : Int), acc.length = l.length → 0 ≤ i → (l.length : Int) - i = d →
    Ev (fun k => laws_toDocumentS.l0 k l acc i) (acc.take i.toNat ++ (l.drop i.toNat).map cDocument) := by
  intro d
  induction d with
  | zero =>
    intro acc i ha h0 hd
    refine Ev.step (fun k => laws_toDocumentS.l0.eq_2 l acc i k) (neg (by omega) (cong (Ev.now _) ?_))
    rw [List.take_of_length_le (by omega), List.drop_of_length_le (by omega)]
    simp
  | succ d ih =>
    intro acc i ha h0 hd
    have hlt : i < (l.length : Int) := by omega
    have hm : rd_T64 l i ∈ l := getD_mem l _ _ (by omega)
    have hw : wrap64 (i + 1) = i + 1 := wrap_inc h0 hlt (by omega)
    have h := ih (acc.set i.toNat (cDocument (rd_T64 l i))) (i + 1) (by simpa using ha) (by omega) (by omega)
    rw [← hw] at h
    refine Ev.step (fun k => laws_toDocumentS.l0.eq_2 l acc i k) (pos hlt (pos h0 (Ev.bind (Ev.bind (toEntry_f _ (hg _ hm)) (Ev.now _)) (pos (by omega) (cong h ?_)))))
    rw [hw, show (i + 1).toNat = i.toNat + 1 by omega, set_take _ _ _ _ (by omega), drop_at l z64 i.toNat (by omega)]
    rfl
theorem toDocument_f (l : List S64) (hl : l.length ≤ 3518437208780) (hg : ∀ x ∈ l, x.f2.length ≤ 5864062014634) : Ev (fun k => laws_toDocumentS.f k l) (l.map cDocument) := by
  refine pos (by omega) (pos (by simp; omega) (cong (toDocument_l0 l hl hg l.length (List.replicate ((l.length : Int)).toNat z66) 0 (by simp) (by omega) (by omega)) ?_))
  simp
theorem eqDocument_f (a : List S66) (hl : a.length ≤ 7036874417766) (hg : ∀ x ∈ a, x.f2.length ≤ 5864062014634) : Ev (fun k => laws_eqDocumentS.f k a a) true := by
  have key : ∀ (d : Nat) (i : Int), 0 ≤ i → (a.length : Int) - i = d → Ev (fun k => laws_eqDocumentS.l0 k a a i) true := by
    intro d
    induction d with
    | zero =>
      intro i h0 hd
      exact Ev.step (fun k => laws_eqDocumentS.l0.eq_2 a a i k) (neg (by omega) (Ev.now _))
    | succ d ih =>
      intro i h0 hd
      have hlt : i < (a.length : Int) := by omega
      have hm : rd_T66 a i ∈ a := getD_mem a _ _ (by omega)
      have h := ih (i + 1) (by omega) (by omega)
      rw [← wrap_inc h0 hlt (by omega)] at h
      exact Ev.step (fun k => laws_eqDocumentS.l0.eq_2 a a i k) (pos hlt (pos h0 (pos hlt (Ev.bind (pos rfl (pos rfl (Ev.bind (eqEntry_f _ (hg _ hm)) (pos rfl (Ev.now true))))) (pos rfl h)))))
  exact pos rfl (key a.length 0 (by omega) (by omega))
theorem szDocument_f (l : List S64) (hl : l.length ≤ 3518437208780) (hg : ∀ d ∈ l, d.f2.length ≤ 5864062014634 ∧ ∀ x ∈ d.f2, x.f0.size ≤ 140737488351232) : ∃ r, Ev (fun k => laws_szDocumentS.f k l 1048576) r ∧ (0 ≤ r → l.length ≤ 1048576 ∧ ∀ d ∈ l, d.f2.length ≤ 1048576) ∧ (0 ≤ r → l.length + (l.map (fun d => d.f2.length)).sum ≤ 1048576) := by
  have key : ∀ (d : Nat) (i left : Int), 0 ≤ i → (l.length : Int) - i = d → -1 ≤ left → left ≤ 1048576 → ∃ r, Ev (fun k => laws_szDocumentS.l0 k l left i) r ∧ -1 ≤ r ∧ r ≤ left ∧ (0 ≤ r → r + (((l.drop i.toNat).map (fun d => d.f2.length)).sum : Nat) ≤ left) := by
    intro d
    induction d with
    | zero =>
      intro i left h0 hd h1 h2
      have e : l.drop i.toNat = [] := List.drop_of_length_le (by omega)
      exact ⟨left, Ev.step (fun k => laws_szDocumentS.l0.eq_2 l left i k) (neg (by omega) (Ev.now _)), h1, by omega, fun _ => by simp [e]⟩
    | succ d ih =>
      intro i left h0 hd h1 h2
      have hlt : i < (l.length : Int) := by omega
      have hm : rd_T64 l i ∈ l := getD_mem l _ _ (by omega)
      have e : l.drop i.toNat = rd_T64 l i :: l.drop (i.toNat + 1) := drop_at l z64 i.toNat (by omega)
      obtain ⟨r1, e1, b1, b2, b3⟩ := szEntry_f _ (hg _ hm).1 (hg _ hm).2 left h1 h2
      by_cases hneg : r1 < 0
      · exact ⟨-1, Ev.step (fun k => laws_szDocumentS.l0.eq_2 l left i k) (pos hlt (pos h0 (Ev.bind (Ev.bind e1 (pos hneg (Ev.now (-1)))) (pos (by omega) (Ev.now _))))), by omega, h1, by omega⟩
      · obtain ⟨r, hr, h3, h4, h5⟩ := ih (i + 1) r1 (by omega) (by omega) (by omega) (by omega)
        rw [← wrap_inc h0 hlt (by omega)] at hr
        refine ⟨r, Ev.step (fun k => laws_szDocumentS.l0.eq_2 l left i k) (pos hlt (pos h0 (Ev.bind (Ev.bind e1 (neg hneg (Ev.now r1))) (neg hneg hr)))), h3, by omega, fun h0r => ?_⟩
        have := h5 h0r
        have := b3 (by omega)
        rw [e, List.map_cons, List.sum_cons]
        rw [show (i + 1).toNat = i.toNat + 1 by omega] at *
        omega
  have hw : wrap64 (1048576 - (l.length : Int)) = 1048576 - (l.length : Int) := wrap_in (by omega) (by omega)
  have hsum : ∀ d ∈ l, d.f2.length ≤ (l.map (fun d => d.f2.length)).sum := fun d hd => le_sum (List.mem_map.2 ⟨d, hd, rfl⟩)
  by_cases hneg : 1048576 - (l.length : Int) < 0
  · exact ⟨-1, pos (by rw [hw]; exact hneg) (Ev.now _), by omega, by omega⟩
  · obtain ⟨r, hr, h3, h4, h5⟩ := key l.length 0 (1048576 - (l.length : Int)) (by omega) (by omega) (by omega) (by omega)
    rw [← hw] at hr
    simp only [Int.toNat_zero, List.drop_zero] at h5
    refine ⟨r, neg (by rw [hw]; exact hneg) hr, fun h => ⟨by omega, fun d hd => ?_⟩, fun h => ?_⟩
    · have := h5 h
      have := hsum d hd
      omega
    · have := h5 h
      omega
/-- What a law's argument tells of the lists. -/
theorem good_of {l : List S64} (g : l.length * 40 ≤ 140737488351232 ∧ ∀ d ∈ l, (Lit.int .i64 d.f0).wf = true ∧ (Lit.int .i64 d.f1).wf = true ∧ d.f2.length * 24 ≤ 140737488351232 ∧ ∀ x ∈ d.f2, x.f0.size ≤ 140737488351232 ∧ (Lit.int .i64 x.f1).wf = true) :
    l.length ≤ 3518437208780 ∧ (∀ d ∈ l, d.f2.length ≤ 5864062014634 ∧ ∀ x ∈ d.f2, x.f0.size ≤ 140737488351232) ∧ GoodD (l.map cDocument) := by
  have h1 : l.length ≤ 3518437208780 := by omega
  have h2 : ∀ d ∈ l, d.f2.length ≤ 5864062014634 ∧ ∀ x ∈ d.f2, x.f0.size ≤ 140737488351232 := fun d hd => ⟨by have := (g.2 d hd).2.2.1; omega, fun x hx => ((g.2 d hd).2.2.2 x hx).1⟩
  refine ⟨h1, h2, by simp; omega, fun d hd => ?_⟩
  obtain ⟨y, hy, rfl⟩ := List.mem_map.1 hd
  refine ⟨by simpa [cDocument] using (h2 y hy).1, fun x hx => ?_⟩
  obtain ⟨z, hz, rfl⟩ := List.mem_map.1 (show x ∈ y.f2.map cEntry from hx)
  exact (h2 y hy).2 z hz

/-- Documents of a size that the laws speak of. -/
def SmD (l : List S66) : Prop := l.length ≤ 1073741824 ∧ ∀ d ∈ l, d.f2.length ≤ 1073741824 ∧ ∀ x ∈ d.f2, x.f0.size ≤ 140737488351232
theorem SmD.good {l : List S66} (h : SmD l) : GoodD l := ⟨by have := h.1; omega, fun d hd => ⟨by have := (h.2 d hd).1; omega, (h.2 d hd).2⟩⟩
def SmE (l : List S51) : Prop := l.length ≤ 1073741824 ∧ ∀ x ∈ l, x.f0.size ≤ 140737488351232
theorem copy_s (l : List S66) (h : SmD l) : Ev (fun k => spec_l35Copy.f k l) l := by
  have hl := h.1
  have key : ∀ (d : Nat) (acc : List S66) (i : Int), 0 ≤ i → (l.length : Int) - i = d → acc.length + d ≤ 1073741824 → Ev (fun k => spec_l35Copy.l0 k l acc i) (acc ++ l.drop i.toNat) := by
    intro d
    induction d with
    | zero =>
      intro acc i h0 hd ha
      refine Ev.step (fun k => spec_l35Copy.l0.eq_2 l acc i k) (neg (by omega) (cong (Ev.now _) ?_))
      rw [List.drop_of_length_le (by omega)]
      simp
    | succ d ih =>
      intro acc i h0 hd ha
      have hlt : i < (l.length : Int) := by omega
      have hm : rd_T66 l i ∈ l := getD_mem l _ _ (by omega)
      have hb := (h.2 _ hm).1
      have h := ih (acc ++ [⟨(rd_T66 l i).f0, (rd_T66 l i).f1, [] ++ (rd_T66 l i).f2⟩]) (i + 1) (by omega) (by omega) (by simp; omega)
      rw [← wrap_inc h0 hlt (by omega)] at h
      refine Ev.step (fun k => spec_l35Copy.l0.eq_2 l acc i k) (pos hlt (pos h0 (known rfl (pos (by simp; omega) (pos (by omega) (cong h ?_))))))
      rw [wrap_inc h0 hlt (by omega), show (i + 1).toNat = i.toNat + 1 by omega, drop_at l z66 i.toNat (by omega)]
      simp [rd_T66]
  have := key l.length [] 0 (by omega) (by omega) (by simp; exact h.1)
  exact cong this (by simp)
noncomputable def postR (l : List S66) (day : Int) (es : List S51) : List S66 × Bool :=
  if docsB (l ++ [⟨(l.length : Int) + 1, day, es⟩]) = true then (l ++ [⟨(l.length : Int) + 1, day, es⟩], true) else ([], false)
theorem post_good {l : List S66} (h : SmD l) {es : List S51} (he : SmE es) (n day : Int) : GoodD (l ++ [⟨n, day, es⟩]) := by
  refine ⟨by have := h.1; simp; omega, fun d hd => ?_⟩
  rcases List.mem_append.1 hd with hd | hd
  · exact h.good.2 d hd
  · obtain rfl := List.mem_singleton.1 hd
    exact ⟨by have := he.1; simp only; omega, he.2⟩
theorem post_s (l : List S66) (h : SmD l) (day : Int) (es : List S51) (he : SmE es) : Ev (fun k => spec_PostEntries.f k l day es) (postR l day es) := by
  have hl := h.1
  have hel := he.1
  refine Ev.bind (copy_s l h) (known rfl (pos (by simp; omega) (pos (by omega) (known rfl ?_))))
  have hw : wrap64 ((l.length : Int) + 1) = (l.length : Int) + 1 := wrap_in (by omega) (by omega)
  rw [hw, List.nil_append]
  refine Ev.bind (docs_s _ (post_good h he _ _)) ?_
  unfold postR
  exact ite_ (fun h => cong (Ev.now _) (by rw [if_pos h])) (fun h => cong (Ev.now _) (by rw [if_neg h]))
theorem copy_i (l : List S66) (h : SmD l) : Ev (fun k => impl_copyDocuments.f k l) l := by
  have hl := h.1
  have key : ∀ (d : Nat) (acc : List S66) (i : Int), 0 ≤ i → (l.length : Int) - i = d → acc.length + d ≤ 1073741824 → Ev (fun k => impl_copyDocuments.l0 k acc l l.length i) (acc ++ l.drop i.toNat) := by
    intro d
    induction d with
    | zero =>
      intro acc i h0 hd ha
      refine Ev.step (fun k => impl_copyDocuments.l0.eq_2 acc l l.length i k) (neg (by omega) (cong (Ev.now _) ?_))
      rw [List.drop_of_length_le (by omega)]
      simp
    | succ d ih =>
      intro acc i h0 hd ha
      have hlt : i < (l.length : Int) := by omega
      have hm : rd_T66 l i ∈ l := getD_mem l _ _ (by omega)
      have hb := (h.2 _ hm).1
      have h := ih (acc ++ [⟨(rd_T66 l i).f0, (rd_T66 l i).f1, [] ++ (rd_T66 l i).f2⟩]) (i + 1) (by omega) (by omega) (by simp; omega)
      rw [← wrap_inc h0 hlt (by omega)] at h
      refine Ev.step (fun k => impl_copyDocuments.l0.eq_2 acc l l.length i k) (pos hlt (pos h0 (pos hlt (known rfl (pos (by simp; omega) (pos (by omega) (cong h ?_)))))))
      rw [wrap_inc h0 hlt (by omega), show (i + 1).toNat = i.toNat + 1 by omega, drop_at l z66 i.toNat (by omega)]
      simp [rd_T66]
  have := key l.length [] 0 (by omega) (by omega) (by simp; exact h.1)
  exact cong this (by simp)
theorem post_i (l : List S66) (h : SmD l) (day : Int) (es : List S51) (he : SmE es) : Ev (fun k => impl_PostEntries.f k l day es) (postR l day es) := by
  have hl := h.1
  have hel := he.1
  refine Ev.bind (copy_i l h) (known rfl (pos (by simp; omega) (pos (by omega) (known rfl ?_))))
  have hw : wrap64 ((l.length : Int) + 1) = (l.length : Int) + 1 := wrap_in (by omega) (by omega)
  rw [hw, List.nil_append]
  refine Ev.bind (docs_i _ (post_good h he _ _)) ?_
  unfold postR
  exact ite_ (fun h => cong (Ev.now _) (by rw [if_pos h])) (fun h => cong (Ev.now _) (by rw [if_neg h]))

theorem profit_eq (a b : Int) : wrap64 (wrap64 (-a) - b) = wrap64 (-(wrap64 (a + b))) := by
  unfold wrap64
  omega
theorem balE_rng (a : ByteArray) : ∀ (l : List S51) (s : Int), -9223372036854775808 ≤ s ∧ s ≤ 9223372036854775807 → -9223372036854775808 ≤ balE a s l ∧ balE a s l ≤ 9223372036854775807
  | [], s, h => h
  | x :: r, s, h => balE_rng a r _ (by dsimp only; split; (unfold wrap64; omega); exact h)
theorem balD_rng (a : ByteArray) (day : Int) : ∀ (l : List S66) (s : Int), -9223372036854775808 ≤ s ∧ s ≤ 9223372036854775807 → -9223372036854775808 ≤ balD a day s l ∧ balD a day s l ≤ 9223372036854775807
  | [], s, h => h
  | x :: r, s, h => balD_rng a day r _ (by dsimp only; split; (exact balE_rng a _ _ h); exact h)
theorem balR_rng (l : List S66) (a : ByteArray) (day : Int) : -9223372036854775808 ≤ balR l a day ∧ balR l a day ≤ 9223372036854775807 := by
  unfold balR
  split
  · exact balD_rng a day l 0 (by omega)
  · omega
theorem neg_zero {t : Int} (h : -9223372036854775808 ≤ t ∧ t ≤ 9223372036854775807) : wrap64 (-t) = 0 ↔ t = 0 := by
  unfold wrap64
  omega
theorem addE_neg (es : List S51) (a : ByteArray) {t : Int} (h : -9223372036854775808 ≤ t ∧ t ≤ 9223372036854775807) : addE es a (wrap64 (-t)) = if t = 0 then es else es ++ [⟨a, wrap64 (-t)⟩] := by
  unfold addE
  by_cases ht : t = 0
  · rw [if_pos ht, if_pos ((neg_zero h).2 ht)]
  · rw [if_neg ht, if_neg (fun hh => ht ((neg_zero h).1 hh))]
theorem addE_len (es : List S51) (a : ByteArray) (n : Int) : (addE es a n).length ≤ es.length + 1 := by
  unfold addE
  split <;> simp
theorem addE_sm {es : List S51} (h : SmE es) (hl : es.length ≤ 1000) {a : ByteArray} (ha : a.size ≤ 140737488351232) (n : Int) : SmE (addE es a n) := by
  refine ⟨by have := addE_len es a n; omega, fun x hx => ?_⟩
  unfold addE at hx
  split at hx
  · exact h.2 x hx
  · rcases List.mem_append.1 hx with hx | hx
    · exact h.2 x hx
    · obtain rfl := List.mem_singleton.1 hx
      exact ha
noncomputable def profR (l : List S66) (day : Int) : Int := wrap64 (-(wrap64 (balR l sSales day + balR l sCost day)))
theorem profR_rng (l : List S66) (day : Int) : -9223372036854775808 ≤ profR l day ∧ profR l day ≤ 9223372036854775807 := by
  unfold profR wrap64
  omega
noncomputable def closeE (l : List S66) (day : Int) : List S51 := addE (addE [] sSales (wrap64 (-balR l sSales day))) sCost (wrap64 (-balR l sCost day))
noncomputable def closeR (l : List S66) (day : Int) : List S66 × Bool :=
  if docsB l = true ∧ inB day 0 999 = true then (if (closeE l day).length = 0 then (l, true) else postR l day (addE (closeE l day) sEquity (wrap64 (-profR l day)))) else ([], false)
theorem sE_nil : SmE [] := ⟨by simp, by simp⟩
theorem closeE_sm (l : List S66) (day : Int) : SmE (closeE l day) ∧ (closeE l day).length ≤ 2 := by
  unfold closeE
  have h1 := addE_len [] sSales (wrap64 (-balR l sSales day))
  have h2 := addE_len (addE [] sSales (wrap64 (-balR l sSales day))) sCost (wrap64 (-balR l sCost day))
  simp only [List.length_nil] at h1
  exact ⟨addE_sm (addE_sm sE_nil (by simp) (by decide) _) (by omega) (by decide) _, by omega⟩
theorem prof_s (l : List S66) (h : SmD l) (day : Int) : Ev (fun k => spec_ProfitOn.f k l day) (profR l day) :=
  Ev.bind (bal_s l h.good sSales day) (Ev.bind (bal_s l h.good sCost day) (cong (Ev.now _) (profit_eq _ _)))
theorem close_s (l : List S66) (h : SmD l) (day : Int) : Ev (fun k => spec_ClosePeriod.f k l day) (closeR l day) := by
  have hst : ∀ (es : List S51) (i : Int) (a : ByteArray) (r : List S66 × Bool), es.length ≤ 10 → 0 ≤ i → i < 2 → rdOf ByteArray.empty [sSales, sCost] i = a →
      Ev (fun k => spec_ClosePeriod.l0 k l day (addE es a (wrap64 (-balR l a day))) [sSales, sCost] (i + 1)) r → Ev (fun k => spec_ClosePeriod.l0 k l day es [sSales, sCost] i) r := by
    intro es i a r hes h0 hi ha hr
    rw [addE_neg es a (balR_rng l a day)] at hr
    refine Ev.step (fun k => spec_ClosePeriod.l0.eq_2 l day es [sSales, sCost] i k) (pos hi (pos h0 (pos (by simpa using hi) ?_)))
    rw [ha, wrap_in (by omega) (by omega)]
    refine Ev.bind (bal_s l h.good a day) (ite_ (fun hz => ?_) (fun hz => pos (by omega) ?_))
    · rw [if_pos hz] at hr
      exact hr
    · rw [if_neg hz] at hr
      exact hr
  have hfin : docsB l = true → inB day 0 999 = true → Ev (fun k => spec_ClosePeriod.l0 k l day (closeE l day) [sSales, sCost] 2) (closeR l day) := by
    intro hd hi
    obtain ⟨hs, hl⟩ := closeE_sm l day
    unfold closeR
    rw [if_pos ⟨hd, hi⟩]
    refine Ev.step (fun k => spec_ClosePeriod.l0.eq_2 l day (closeE l day) [sSales, sCost] 2 k) (neg (by omega) (ite_ (fun hz => ?_) (fun hz => ?_)))
    · rw [if_pos (by omega)]
      exact Ev.bind (copy_s l h) (Ev.now _)
    · rw [if_neg (by omega), addE_neg _ _ (profR_rng l day)]
      refine Ev.bind (prof_s l h day) (ite_ (fun hp => ?_) (fun hp => Ev.bind (prof_s l h day) (pos (by omega) ?_)))
      · rw [if_pos hp]
        exact Ev.bind (post_s l h day _ hs) (Ev.now _)
      · rw [if_neg hp]
        have e := addE_sm hs (by omega) (a := sEquity) (by decide) (wrap64 (-profR l day))
        rw [addE_neg _ _ (profR_rng l day), if_neg hp] at e
        exact Ev.bind (post_s l h day _ e) (Ev.now _)
  refine Ev.bind (docs_s l h.good) (ite_ (fun hd => known (in_s _ _ _) (Ev.step (fun k => spec_ClosePeriod.j0.eq_2 l day _ k) (ite_ (fun hi => ?_) (fun hi => ?_)))) (fun hd => Ev.step (fun k => spec_ClosePeriod.j0.eq_2 l day _ k) (pos rfl (cong (Ev.now _) ?_))))
  · refine cong (Ev.now _) ?_
    unfold closeR
    rw [if_neg (fun hh => by rw [hh.2] at hi; simp at hi)]
  · have hi' : inB day 0 999 = true := by simpa using hi
    refine hst [] 0 sSales _ (by simp) (by omega) (by omega) rfl (hst _ 1 sCost _ (by have := addE_len [] sSales (wrap64 (-balR l sSales day)); simp at this; omega) (by omega) (by omega) rfl ?_)
    exact hfin hd hi'
  · unfold closeR
    rw [if_neg (fun hh => hd hh.1)]
theorem prof_i (l : List S66) (h : SmD l) (day : Int) : Ev (fun k => impl_ProfitOn.f k l day) (profR l day) :=
  Ev.bind (bal_i l h.good sSales day) (Ev.bind (bal_i l h.good sCost day) (Ev.now _))
theorem close_i (l : List S66) (h : SmD l) (day : Int) : Ev (fun k => impl_ClosePeriod.f k l day) (closeR l day) := by
  obtain ⟨hs, hl⟩ := closeE_sm l day
  unfold closeR
  refine Ev.bind (docs_i l h.good) (ite_ (fun hd => known (in_i _ _ _) (ite_ (fun hi => Ev.bind (bal_i l h.good sSales day) (Ev.bind (bal_i l h.good sCost day) ?_)) (fun hi => cong (Ev.now _) ?_))) (fun hd => cong (Ev.now _) ?_))
  · rw [if_pos ⟨hd, hi⟩]
    refine ite_ (fun hz => ?_) (fun hz => ?_)
    · rw [if_pos (show (closeE l day).length = 0 from hz)]
      exact Ev.bind (copy_i l h) (Ev.now _)
    · rw [if_neg (show ¬ (closeE l day).length = 0 from hz)]
      exact Ev.bind (prof_i l h day) (Ev.bind (post_i l h day _ (addE_sm hs (by omega) (by decide) _)) (Ev.now _))
  · rw [if_neg (fun hh => hi hh.2)]
  · rw [if_neg (fun hh => hd hh.1)]

theorem markText_f (n : Int) (h0 : 0 < n) (hn : n ≤ 4611686018427387904) : ∃ t, Ev (fun k => laws_markText.f k n) t := by
  have key : ∀ (d : Nat) (n : Int) (acc : ByteArray), n.toNat ≤ d → 0 ≤ n → acc.size + n ≤ 4611686018427387904 → ∃ t, Ev (fun k => laws_markText.l0 k n acc) t := by
    intro d
    induction d with
    | zero =>
      intro n acc hd h0 hs
      exact ⟨_, Ev.step (fun k => laws_markText.l0.eq_2 n acc k) (neg (by omega) (pos (by omega) (Ev.now _)))⟩
    | succ d ih =>
      intro n acc hd h0 hs
      by_cases hp : n > 0
      · have hw : wrap64 (Int.tdiv n 10) = Int.tdiv n 10 := wrap_in (by rw [Int.tdiv_eq_ediv_of_nonneg h0]; omega) (by rw [Int.tdiv_eq_ediv_of_nonneg h0]; omega)
        have he : Int.tdiv n 10 = n / 10 := Int.tdiv_eq_ediv_of_nonneg h0
        have hz : (strOfNums [(wrap64 (48 + (Int.tmod n 10))) % 256]).size = 1 := rfl
        obtain ⟨t, ht⟩ := ih (Int.tdiv n 10) (strOfNums [(wrap64 (48 + (Int.tmod n 10))) % 256] ++ acc) (by omega) (by omega) (by rw [ByteArray.size_append, hz]; omega)
        rw [← hw] at ht
        exact ⟨t, Ev.step (fun k => laws_markText.l0.eq_2 n acc k) (pos hp (known rfl (pos (by rw [hz]; omega) ht)))⟩
      · exact ⟨_, Ev.step (fun k => laws_markText.l0.eq_2 n acc k) (neg hp (pos (by omega) (Ev.now _)))⟩
  obtain ⟨t, ht⟩ := key n.toNat n ⟨#[]⟩ (Nat.le_refl _) (by omega) (by rw [show (⟨#[]⟩ : ByteArray).size = 0 from rfl]; omega)
  exact ⟨t, neg (by omega) ht⟩
theorem rdE_set (xs : List S51) (i : Int) (a : S51) (h : i.toNat < xs.length) : rd_T51 (xs.set i.toNat a) i = a := by
  unfold rd_T51
  rw [List.getD_eq_getElem?_getD, List.getElem?_eq_getElem (by simpa using h), Option.getD_some, List.getElem_set_self]
theorem rdE_take {xs ys : List S51} {i : Int} {n : Nat} (h : ys.take n = xs.take n) (hi : i.toNat < n) : rd_T51 ys i = rd_T51 xs i := by
  unfold rd_T51
  rw [List.getD_eq_getElem?_getD, List.getD_eq_getElem?_getD, ← List.getElem?_take_of_lt hi, h, List.getElem?_take_of_lt hi]
theorem markE_step (xs : List S51) (c i : Int) (k : Nat) (h : i < (xs.length : Int)) (h0 : 0 ≤ i) (hc0 : 0 ≤ c) (hc : c ≤ 4611686018427387904) :
    laws_markEntryS.l0 (k + 1) xs c i = (laws_markText.f k c).bind fun t => laws_markEntryS.l0 k (xs.set i.toNat ⟨t, c + 1⟩) (c + 2) (wrap64 (i + 1)) := by
  have hl : i.toNat < xs.length := by omega
  have w1 : wrap64 (c + 1) = c + 1 := wrap_in (by omega) (by omega)
  have w2 : wrap64 (c + 1 + 1) = c + 2 := by rw [wrap_in (by omega) (by omega)]; omega
  rw [laws_markEntryS.l0.eq_2, if_pos h]
  simp only [if_pos h0, Option.bind_some, rdE_set _ _ _ hl, List.set_set, w1, w2]
theorem heldE_step (xs : List S51) (c i : Int) (k : Nat) (t : ByteArray) (h : i < (xs.length : Int)) (h0 : 0 ≤ i) (hc0 : 0 ≤ c) (hc : c ≤ 4611686018427387904) (hr : rd_T51 xs i = ⟨t, c + 1⟩) :
    laws_heldEntryS.l0 (k + 1) xs c i = (laws_markText.f k c).bind fun t' => if t.toList = t'.toList then laws_heldEntryS.l0 k xs (c + 2) (wrap64 (i + 1)) else some (-1) := by
  have w1 : wrap64 (c + 1) = c + 1 := wrap_in (by omega) (by omega)
  have w2 : wrap64 (c + 1 + 1) = c + 2 := by rw [wrap_in (by omega) (by omega)]; omega
  rw [laws_heldEntryS.l0.eq_2, if_pos h, if_pos h0, hr]
  simp only [w1, w2, if_true]
theorem markHeldE_f (l : List S51) (c : Int) (hc : 1 ≤ c) (hb : c + 2 * l.length ≤ 4611686018427387900) :
    ∃ l2, Ev (fun k => laws_markEntryS.f k l c) (c + 2 * l.length, l2) ∧ Ev (fun k => laws_heldEntryS.f k l2 c) (c + 2 * l.length) := by
  have key : ∀ (d : Nat) (xs : List S51) (c i : Int), 0 ≤ i → (xs.length : Int) - i = d → 1 ≤ c → c + 2 * d ≤ 4611686018427387900 → xs.length ≤ 4611686018427387900 →
      ∃ l2 : List S51, l2.length = xs.length ∧ l2.take i.toNat = xs.take i.toNat ∧ Ev (fun k => laws_markEntryS.l0 k xs c i) (c + 2 * d, l2) ∧ Ev (fun k => laws_heldEntryS.l0 k l2 c i) (c + 2 * d) := by
    intro d
    induction d with
    | zero =>
      intro xs c i h0 hd hc hb hx
      exact ⟨xs, rfl, rfl, Ev.step (fun k => laws_markEntryS.l0.eq_2 xs c i k) (neg (by omega) (cong (Ev.now _) (by simp))), Ev.step (fun k => laws_heldEntryS.l0.eq_2 xs c i k) (neg (by omega) (cong (Ev.now _) (by simp)))⟩
    | succ d ih =>
      intro xs c i h0 hd hc hb hx
      have hlt : i < (xs.length : Int) := by omega
      obtain ⟨t, ht⟩ := markText_f c (by omega) (by omega)
      obtain ⟨l2, e1, e2, h1, h2⟩ := ih (xs.set i.toNat ⟨t, c + 1⟩) (c + 2) (i + 1) (by omega) (by simp; omega) (by omega) (by omega) (by simpa using hx)
      have hw : wrap64 (i + 1) = i + 1 := wrap_inc h0 hlt (by omega)
      have ec : c + 2 + 2 * (d : Int) = c + 2 * ((d + 1 : Nat) : Int) := by omega
      rw [← hw, ec] at h1 h2
      have hr : rd_T51 l2 i = ⟨t, c + 1⟩ := by
        rw [rdE_take e2 (by omega)]
        exact rdE_set xs i _ (by omega)
      refine ⟨l2, by simpa using e1, ?_, Ev.step (fun k => markE_step xs c i k hlt h0 (by omega) (by omega)) (Ev.bind ht h1), Ev.step (fun k => heldE_step l2 c i k t (by rw [e1]; simpa using hlt) h0 (by omega) (by omega) hr) (Ev.bind ht (pos rfl h2))⟩
      have e3 := congrArg (List.take i.toNat) e2
      rw [List.take_take, List.take_take, show min i.toNat (i + 1).toNat = i.toNat by omega, List.take_set_of_le (Nat.le_refl _)] at e3
      exact e3
  obtain ⟨l2, -, -, h1, h2⟩ := key l.length l c 0 (by omega) (by omega) hc hb (by omega)
  exact ⟨l2, h1, h2⟩
theorem rdD_set (xs : List S66) (i : Int) (a : S66) (h : i.toNat < xs.length) : rd_T66 (xs.set i.toNat a) i = a := by
  unfold rd_T66
  rw [List.getD_eq_getElem?_getD, List.getElem?_eq_getElem (by simpa using h), Option.getD_some, List.getElem_set_self]
theorem rdD_take {xs ys : List S66} {i : Int} {n : Nat} (h : ys.take n = xs.take n) (hi : i.toNat < n) : rd_T66 ys i = rd_T66 xs i := by
  unfold rd_T66
  rw [List.getD_eq_getElem?_getD, List.getD_eq_getElem?_getD, ← List.getElem?_take_of_lt hi, h, List.getElem?_take_of_lt hi]
theorem heldD_step (xs : List S66) (c i : Int) (k : Nat) (es : List S51) (h : i < (xs.length : Int)) (h0 : 0 ≤ i) (hc0 : 0 ≤ c) (hc : c ≤ 4611686018427387904) (hr : rd_T66 xs i = ⟨c, c + 1, es⟩) :
    laws_heldDocumentS.l0 (k + 1) xs c i = (laws_heldEntryS.f k es (c + 2)).bind fun t => if t < 0 then some (-1) else laws_heldDocumentS.l0 k xs t (wrap64 (i + 1)) := by
  have w1 : wrap64 (c + 1) = c + 1 := wrap_in (by omega) (by omega)
  have w2 : wrap64 (c + 1 + 1) = c + 2 := by rw [wrap_in (by omega) (by omega)]; omega
  rw [laws_heldDocumentS.l0.eq_2, if_pos h, if_pos h0, hr]
  simp only [w1, w2, if_true]
theorem markHeldD_f (l : List S66) (c : Int) (hc : 1 ≤ c) (hb : c + 2 * l.length + 2 * ((l.map (fun x => x.f2.length)).sum : Nat) ≤ 4611686018427387900) :
    ∃ q l2, Ev (fun k => markDoc.l0 k l c 0) (q, l2) ∧ Ev (fun k => laws_heldDocumentS.f k l2 c) q ∧ 1 ≤ q := by
  have key : ∀ (d : Nat) (xs : List S66) (c i : Int), 0 ≤ i → (xs.length : Int) - i = d → 1 ≤ c → c + 2 * d + 2 * (((xs.drop i.toNat).map (fun x => x.f2.length)).sum : Nat) ≤ 4611686018427387900 → xs.length ≤ 4611686018427387900 →
      ∃ (q : Int) (l2 : List S66), l2.length = xs.length ∧ l2.take i.toNat = xs.take i.toNat ∧ Ev (fun k => markDoc.l0 k xs c i) (q, l2) ∧ Ev (fun k => laws_heldDocumentS.l0 k l2 c i) q ∧ 1 ≤ q := by
    intro d
    induction d with
    | zero =>
      intro xs c i h0 hd hc hb hx
      exact ⟨c, xs, rfl, rfl, Ev.step (fun k => markDoc.l0.eq_2 xs c i k) (neg (by omega) (Ev.now _)), Ev.step (fun k => laws_heldDocumentS.l0.eq_2 xs c i k) (neg (by omega) (Ev.now _)), hc⟩
    | succ d ih =>
      intro xs c i h0 hd hc hb hx
      have hlt : i < (xs.length : Int) := by omega
      have e : xs.drop i.toNat = rd_T66 xs i :: xs.drop (i.toNat + 1) := drop_at xs z66 i.toNat (by omega)
      rw [e, List.map_cons, List.sum_cons] at hb
      obtain ⟨es, g1, g2⟩ := markHeldE_f (rd_T66 xs i).f2 (c + 2) (by omega) (by omega)
      obtain ⟨q, l2, e1, e2, h1, h2, h3⟩ := ih (xs.set i.toNat ⟨c, c + 1, es⟩) (c + 2 + 2 * ((rd_T66 xs i).f2.length : Int)) (i + 1) (by omega) (by simp; omega) (by omega) (by
        rw [show (i + 1).toNat = i.toNat + 1 by omega, List.drop_set_of_lt (by omega)]
        omega) (by simpa using hx)
      have hw : wrap64 (i + 1) = i + 1 := wrap_inc h0 hlt (by omega)
      have w1 : wrap64 (c + 1) = c + 1 := wrap_in (by omega) (by omega)
      have w2 : wrap64 (wrap64 (c + 1) + 1) = c + 2 := by rw [w1, wrap_in (by omega) (by omega)]; omega
      rw [← hw] at h1 h2
      have hr : rd_T66 l2 i = ⟨c, c + 1, es⟩ := by
        rw [rdD_take e2 (by omega)]
        exact rdD_set xs i _ (by omega)
      refine ⟨q, l2, by simpa using e1, ?_, Ev.step (fun k => markDoc.l0.eq_2 xs c i k) (pos hlt (pos h0 (Ev.bind (by rw [w2]; exact g1) (by rw [w1]; exact h1)))), Ev.step (fun k => heldD_step l2 c i k es (by rw [e1]; simpa using hlt) h0 (by omega) (by omega) hr) (Ev.bind g2 (neg (by omega) h2)), h3⟩
      have e3 := congrArg (List.take i.toNat) e2
      rw [List.take_take, List.take_take, show min i.toNat (i + 1).toNat = i.toNat by omega, List.take_set_of_le (Nat.le_refl _)] at e3
      exact e3
  obtain ⟨q, l2, -, -, h1, h2, h3⟩ := key l.length l c 0 (by omega) (by omega) hc (by simpa using hb) (by omega)
  exact ⟨q, l2, h1, h2, h3⟩

theorem post_sm {l : List S66} (h : SmD l) (h2 : l.length + (l.map (fun x => x.f2.length)).sum ≤ 1048576) (day : Int) (es : List S51) (he : es.length ≤ 1048576) :
    (postR l day es).1.length + ((postR l day es).1.map (fun x => x.f2.length)).sum ≤ 2097153 := by
  unfold postR
  split
  · simp
    omega
  · simp
theorem close_sm {l : List S66} (h : SmD l) (h2 : l.length + (l.map (fun x => x.f2.length)).sum ≤ 1048576) (day : Int) : (closeR l day).1.length + ((closeR l day).1.map (fun x => x.f2.length)).sum ≤ 2097153 := by
  unfold closeR
  split
  · split
    · simp only
      omega
    · refine post_sm h h2 _ _ ?_
      have := addE_len (closeE l day) sEquity (wrap64 (-profR l day))
      have := (closeE_sm l day).2
      omega
  · simp
theorem FnExactClosePeriod (l : List S64) (g : l.length * 40 ≤ 140737488351232 ∧ ∀ d ∈ l, (Lit.int .i64 d.f0).wf = true ∧ (Lit.int .i64 d.f1).wf = true ∧ d.f2.length * 24 ≤ 140737488351232 ∧ ∀ x ∈ d.f2, x.f0.size ≤ 140737488351232 ∧ (Lit.int .i64 x.f1).wf = true) (day : Int) (w : (Lit.int .i64 day).wf = true) : ∃ k, AllOk k l day := by
  obtain ⟨h1, h2, h3⟩ := good_of g
  obtain ⟨r, hr, hb1, hb2⟩ := szDocument_f l h1 h2
  obtain ⟨ks, hks⟩ := Ev.rounds hr
  refine ⟨ks, r, hks, ?_⟩
  by_cases hn : r < 0
  · exact .inl hn
  · have hB := hb2 (by omega)
    have hto := toDocument_f l h1 (fun x hx => (h2 x hx).1)
    obtain ⟨j, hj⟩ : ∃ j, j = l.map cDocument := ⟨_, rfl⟩
    rw [← hj] at hto h3
    have hJ : j.length + (j.map (fun x => x.f2.length)).sum ≤ 1048576 := by
      rw [hj]
      simpa [cDocument, Function.comp_def] using hB
    have hS : SmD j := ⟨by omega, fun d hd => ⟨by
      have := le_sum (List.mem_map.2 ⟨d, hd, rfl⟩ : d.f2.length ∈ j.map (fun x => x.f2.length))
      omega, (h3.2 d hd).2⟩⟩
    have hR := close_sm hS hJ day
    have hrow : ∀ d ∈ (closeR j day).1, d.f2.length ≤ 2097153 := fun d hd => by
      have := le_sum (List.mem_map.2 ⟨d, hd, rfl⟩ : d.f2.length ∈ (closeR j day).1.map (fun x => x.f2.length))
      omega
    obtain ⟨kt, h4⟩ := Ev.rounds hto
    obtain ⟨k3, h5⟩ := Ev.rounds (close_s j hS day)
    obtain ⟨k4, h6⟩ := Ev.rounds (close_i j hS day)
    obtain ⟨k5, h7⟩ := Ev.rounds (eqDocument_f (closeR j day).1 (by omega) (fun x hx => by have := hrow x hx; omega))
    obtain ⟨k6, h8⟩ := Ev.rounds (eqDocument_f j (by omega) (fun x hx => by have := (hS.2 x hx).1; omega))
    obtain ⟨q2, j2, e1, -, hq2⟩ := markHeldD_f j 1 (by omega) (by omega)
    obtain ⟨m, g2, e2, e3, hm⟩ := markHeldD_f (closeR j day).1 1 (by omega) (by omega)
    obtain ⟨k7, h9⟩ := Ev.rounds e1
    obtain ⟨k9, h10⟩ := Ev.rounds e2
    obtain ⟨k10, h11⟩ := Ev.rounds e3
    exact .inr ⟨hn, kt, k3, k4, k5, k6, k7, k9, k10, j, j2, (closeR j day).1, g2, (closeR j day).2, q2, m, h4, h5, h6, h7, h8, h9, by omega, h10, h11, by omega⟩

end Go.Proofs.Ytjhjeghgeclglaa.PureFnExactClosePeriod
