/- Plain laws for FnExactProfitOn (what the printed functions compute). -/
import Derived.Test.YtjhjeghgeclglaaPFnExactProfitOnx6
import Derived.Test.YtjhjeghgeclglaaEv
namespace Go.Proofs.Ytjhjeghgeclglaa.PureFnExactProfitOn
open Go.RowKit Go.Proofs.Ytjhjeghgeclglaa.PFnExactProfitOn Go.Proofs.YtjhjeghgeclglaaW.PrintWords Go.Proofs.YtjhjeghgeclglaaW.PrintLast Go.Proofs.YtjhjeghgeclglaaW.PrintMore Go.Proofs.YtjhjeghgeclglaaEv
set_option linter.unusedVariables false
def inB (a b c : Int) : Bool := decide (a ≥ b) && decide (a ≤ c)
theorem inB_iff {a b c : Int} : inB a b c = true ↔ b ≤ a ∧ a ≤ c := by simp [inB]
theorem in_s (a b c : Int) : spec_l1In.f a b c = some (inB a b c) := by
  unfold spec_l1In.f inB
  by_cases h : a ≥ b <;> simp [h]
theorem in_i (a b c : Int) : impl_in.f a b c = some (inB a b c) := in_s a b c
theorem code_ex (s : ByteArray) (hs : s.size ≤ 140737488351232) : ∃ b, Ev (fun k => spec_IsCode.f k s) b := by
  have key : ∀ (d : Nat) (i : Int), 0 ≤ i → (s.size : Int) - i ≤ d → ∃ b, Ev (fun k => spec_IsCode.l0 k s i) b := by
    intro d
    induction d with
    | zero =>
      intro i h0 hd
      refine ex_step (fun k => spec_IsCode.l0.eq_2 s i k) ?_
      repeat (first | exact ex_now _ | (exfalso; omega) | refine ex_ite (fun _ => ?_) (fun _ => ?_))
    | succ d ih =>
      intro i h0 hd
      refine ex_step (fun k => spec_IsCode.l0.eq_2 s i k) ?_
      refine ex_ite (fun hlt => ?_) (fun _ => ?_)
      · have hw : wrap64 (i + 1) = i + 1 := wrap_inc h0 hlt (by omega)
        have ih' := ih (i + 1) (by omega) (by omega)
        rw [hw]
        repeat (first | exact ex_now _ | exact ih' | (exfalso; omega) | refine ex_ite (fun _ => ?_) (fun _ => ?_))
      · repeat (first | exact ex_now _ | refine ex_ite (fun _ => ?_) (fun _ => ?_))
  exact key s.size 0 (by omega) (by omega)
open Classical in
noncomputable def codeB (s : ByteArray) : Bool := if h : ∃ b, Ev (fun k => spec_IsCode.f k s) b then h.choose else false
theorem code_s {s : ByteArray} (hs : s.size ≤ 140737488351232) : Ev (fun k => spec_IsCode.f k s) (codeB s) := by
  have h := code_ex s hs
  unfold codeB
  rw [dif_pos h]
  exact h.choose_spec
theorem code_l0 : ∀ k s i, impl_IsCode.l0 k s i = spec_IsCode.l0 k s i := by
  intro k
  induction k with
  | zero => intros; rfl
  | succ k ih => intro s i; simp only [impl_IsCode.l0, spec_IsCode.l0, ih]
theorem code_i {s : ByteArray} (hs : s.size ≤ 140737488351232) : Ev (fun k => impl_IsCode.f k s) (codeB s) := Ev.congr (fun k => code_l0 k s 0) (code_s hs)

/-- Lists of entries of sizes that lie in memory. -/
def GoodE (l : List S51) : Prop := l.length ≤ 5864062014634 ∧ ∀ x ∈ l, x.f0.size ≤ 140737488351232
def cEntry (x : S102) : S51 := ⟨x.f0, x.f1⟩
theorem toEntry_l0 (l : List S102) (hl : l.length ≤ 5864062014634) : ∀ (d : Nat) (acc : List S51) (i : Int), acc.length = l.length → 0 ≤ i → (l.length : Int) - i = d →
    Ev (fun k => laws_toEntryS.l0 k l acc i) (acc.take i.toNat ++ (l.drop i.toNat).map cEntry) := by
  intro d
  induction d with
  | zero =>
    intro acc i ha h0 hd
    refine Ev.step (fun k => laws_toEntryS.l0.eq_2 l acc i k) (neg (by omega) (cong (Ev.now _) ?_))
    rw [List.take_of_length_le (by omega), List.drop_of_length_le (by omega)]
    simp
  | succ d ih =>
    intro acc i ha h0 hd
    have hlt : i < (l.length : Int) := by omega
    have hw : wrap64 (i + 1) = i + 1 := wrap_inc h0 hlt (by omega)
    have h := ih (acc.set i.toNat (cEntry (rd_T102 l i))) (i + 1) (by simpa using ha) (by omega) (by omega)
    rw [← hw] at h
    refine Ev.step (fun k => laws_toEntryS.l0.eq_2 l acc i k) (pos hlt (pos h0 (known rfl (pos (by omega) (cong h ?_)))))
    rw [hw, show (i + 1).toNat = i.toNat + 1 by omega, set_take _ _ _ _ (by omega), drop_at l z102 i.toNat (by omega)]
    rfl
theorem toEntry_f (l : List S102) (hl : l.length ≤ 5864062014634) : Ev (fun k => laws_toEntryS.f k l) (l.map cEntry) := by
  refine pos (by omega) (pos (by simp; omega) (cong (toEntry_l0 l hl l.length (List.replicate ((l.length : Int)).toNat z51) 0 (by simp) (by omega) (by omega)) ?_))
  simp
theorem eqEntry_f (a : List S51) (hl : a.length ≤ 5864062014634) : Ev (fun k => laws_eqEntryS.f k a a) true := by
  have key : ∀ (d : Nat) (i : Int), 0 ≤ i → (a.length : Int) - i = d → Ev (fun k => laws_eqEntryS.l0 k a a i) true := by
    intro d
    induction d with
    | zero =>
      intro i h0 hd
      exact Ev.step (fun k => laws_eqEntryS.l0.eq_2 a a i k) (neg (by omega) (Ev.now _))
    | succ d ih =>
      intro i h0 hd
      have hlt : i < (a.length : Int) := by omega
      have h := ih (i + 1) (by omega) (by omega)
      rw [← wrap_inc h0 hlt (by omega)] at h
      exact Ev.step (fun k => laws_eqEntryS.l0.eq_2 a a i k) (pos hlt (pos h0 (pos hlt (known (show laws_eqEntry.f _ _ _ _ = some true by simp [laws_eqEntry.f]) (pos rfl h)))))
  exact pos rfl (key a.length 0 (by omega) (by omega))
theorem szEntry_f (l : List S102) (hl : l.length ≤ 5864062014634) (hg : ∀ x ∈ l, x.f0.size ≤ 140737488351232) (left : Int) (hlo : -1 ≤ left) (hhi : left ≤ 1048576) : ∃ r, Ev (fun k => laws_szEntryS.f k l left) r ∧ -1 ≤ r ∧ r ≤ left ∧ (0 ≤ r → r + l.length ≤ left) := by
  have key : ∀ (d : Nat) (i left : Int), 0 ≤ i → (l.length : Int) - i ≤ d → -1 ≤ left → left ≤ 1048576 → ∃ r, Ev (fun k => laws_szEntryS.l0 k l left i) r ∧ -1 ≤ r ∧ r ≤ left := by
    intro d
    induction d with
    | zero =>
      intro i left h0 hd h1 h2
      exact ⟨left, Ev.step (fun k => laws_szEntryS.l0.eq_2 l left i k) (neg (by omega) (Ev.now _)), h1, by omega⟩
    | succ d ih =>
      intro i left h0 hd h1 h2
      by_cases hlt : i < (l.length : Int)
      · have hm : rd_T102 l i ∈ l := getD_mem l _ _ (by omega)
        have hs := hg _ hm
        have hw : wrap64 (left - ((rd_T102 l i).f0.size : Int)) = left - ((rd_T102 l i).f0.size : Int) := wrap_in (by omega) (by omega)
        by_cases hneg : left - ((rd_T102 l i).f0.size : Int) < 0
        · exact ⟨-1, Ev.step (fun k => laws_szEntryS.l0.eq_2 l left i k) (pos hlt (pos h0 (known (a := -1) (by unfold laws_szEntry.f; rw [hw, if_pos hneg]) (pos (by omega) (Ev.now _))))), by omega, h1⟩
        · obtain ⟨r, hr, h3, h4⟩ := ih (i + 1) (left - ((rd_T102 l i).f0.size : Int)) (by omega) (by omega) (by omega) (by omega)
          rw [← wrap_inc h0 hlt (by omega)] at hr
          exact ⟨r, Ev.step (fun k => laws_szEntryS.l0.eq_2 l left i k) (pos hlt (pos h0 (known (a := left - ((rd_T102 l i).f0.size : Int)) (by unfold laws_szEntry.f; rw [hw, if_neg hneg]) (neg hneg hr)))), h3, by omega⟩
      · exact ⟨left, Ev.step (fun k => laws_szEntryS.l0.eq_2 l left i k) (neg hlt (Ev.now _)), h1, by omega⟩
  have hw : wrap64 (left - (l.length : Int)) = left - (l.length : Int) := wrap_in (by omega) (by omega)
  by_cases hneg : left - (l.length : Int) < 0
  · exact ⟨-1, pos (by rw [hw]; exact hneg) (Ev.now _), by omega, hlo, by omega⟩
  · obtain ⟨r, hr, h3, h4⟩ := key l.length 0 (left - (l.length : Int)) (by omega) (by omega) (by omega) (by omega)
    rw [← hw] at hr
    exact ⟨r, neg (by rw [hw]; exact hneg) hr, h3, by omega, fun _ => by omega⟩
noncomputable def entOk (x : S51) : Bool := codeB x.f0 && (inB x.f1 (-1000000000) 1000000000 && decide (x.f1 ≠ 0))
theorem entOk_iff {x : S51} : entOk x = true ↔ codeB x.f0 = true ∧ (-1000000000 ≤ x.f1 ∧ x.f1 ≤ 1000000000) ∧ x.f1 ≠ 0 := by simp [entOk, inB_iff]
def sumW (acc : Int) (l : List S51) : Int := l.foldl (fun s x => wrap64 (s + x.f1)) acc
noncomputable def entriesB (l : List S51) : Bool := l.all entOk && (inB l.length 2 12 && decide (sumW 0 l = 0))
theorem entries_s (l : List S51) (hg : l.length ≤ 5864062014634 ∧ ∀ x ∈ l, x.f0.size ≤ 140737488351232) : Ev (fun k => spec_AreEntries.f k l) (entriesB l) := by
  have key : ∀ (d : Nat) (acc i : Int), 0 ≤ i → (l.length : Int) - i = d → Ev (fun k => spec_AreEntries.l0 k l acc i) ((l.drop i.toNat).all entOk && (inB l.length 2 12 && decide (sumW acc (l.drop i.toNat) = 0))) := by
    intro d
    induction d with
    | zero =>
      intro acc i h0 hd
      have e : l.drop i.toNat = [] := List.drop_of_length_le (by omega)
      rw [e]
      refine Ev.step (fun k => spec_AreEntries.l0.eq_2 l acc i k) (neg (by omega) ?_)
      by_cases ha : acc = 0
      · exact pos ha (known (in_s _ _ _) (cong (Ev.now _) (by simp [sumW, ha])))
      · exact neg ha (cong (Ev.now _) (by simp [sumW, ha]))
    | succ d ih =>
      intro acc i h0 hd
      have hlt : i < (l.length : Int) := by omega
      have e : l.drop i.toNat = rd_T51 l i :: l.drop (i.toNat + 1) := drop_at l z51 i.toNat (by omega)
      have hm : rd_T51 l i ∈ l := getD_mem l _ _ (by omega)
      have h := ih (wrap64 (acc + (rd_T51 l i).f1)) (i + 1) (by omega) (by omega)
      rw [show (i + 1).toNat = i.toNat + 1 by omega, ← wrap_inc h0 hlt (by omega)] at h
      rw [e, List.all_cons]
      refine Ev.step (fun k => spec_AreEntries.l0.eq_2 l acc i k) (pos hlt (pos h0 (Ev.bind (code_s (hg.2 _ hm)) ?_)))
      by_cases h1 : codeB (rd_T51 l i).f0 = true
      · refine pos h1 ?_
        by_cases h2 : (rd_T51 l i).f1 = 0
        · exact pos h2 (cong (Ev.now _) (by simp [entOk, h2]))
        · refine neg h2 (known (in_s _ _ _) ?_)
          by_cases h3 : inB (rd_T51 l i).f1 (-1000000000) 1000000000 = true
          · exact pos h3 (cong h (by rw [show entOk (rd_T51 l i) = true by simp [entOk, h1, h2, h3], Bool.true_and]; rfl))
          · exact neg h3 (cong (Ev.now _) (by rw [Bool.not_eq_true] at h3; simp [entOk, h3]))
      · exact neg h1 (cong (Ev.now _) (by rw [Bool.not_eq_true] at h1; simp [entOk, h1]))
  exact key l.length 0 0 (by omega) (by omega)
theorem entries_i (l : List S51) (hg : l.length ≤ 5864062014634 ∧ ∀ x ∈ l, x.f0.size ≤ 140737488351232) : Ev (fun k => impl_AreEntries.f k l) (entriesB l) := by
  have key : ∀ (d : Nat) (acc i : Int), 0 ≤ i → (l.length : Int) - i = d → Ev (fun k => impl_AreEntries.l0 k l acc l l.length i) ((l.drop i.toNat).all entOk && (inB l.length 2 12 && decide (sumW acc (l.drop i.toNat) = 0))) := by
    intro d
    induction d with
    | zero =>
      intro acc i h0 hd
      have e : l.drop i.toNat = [] := List.drop_of_length_le (by omega)
      rw [e]
      refine Ev.step (fun k => impl_AreEntries.l0.eq_2 l acc l l.length i k) (neg (by omega) (known (in_i _ _ _) ?_))
      by_cases ha : inB (l.length : Int) 2 12 = true
      · exact pos ha (cong (Ev.now _) (by rw [ha, Bool.true_and]; show (acc == 0) = (true && decide (acc = 0)); rw [Bool.true_and, Bool.eq_iff_iff, beq_iff_eq, decide_eq_true_iff]))
      · exact neg ha (cong (Ev.now _) (by rw [Bool.not_eq_true] at ha; simp [ha]))
    | succ d ih =>
      intro acc i h0 hd
      have hlt : i < (l.length : Int) := by omega
      have e : l.drop i.toNat = rd_T51 l i :: l.drop (i.toNat + 1) := drop_at l z51 i.toNat (by omega)
      have hm : rd_T51 l i ∈ l := getD_mem l _ _ (by omega)
      have h := ih (wrap64 (acc + (rd_T51 l i).f1)) (i + 1) (by omega) (by omega)
      rw [show (i + 1).toNat = i.toNat + 1 by omega, ← wrap_inc h0 hlt (by omega)] at h
      rw [e, List.all_cons]
      refine Ev.step (fun k => impl_AreEntries.l0.eq_2 l acc l l.length i k) (pos hlt (pos h0 (pos hlt (Ev.bind (code_i (hg.2 _ hm)) ?_))))
      by_cases h1 : codeB (rd_T51 l i).f0 = true
      · refine pos h1 (known (in_i _ _ _) ?_)
        by_cases h3 : inB (rd_T51 l i).f1 (-1000000000) 1000000000 = true
        · refine pos h3 ?_
          by_cases h2 : (rd_T51 l i).f1 = 0
          · exact pos h2 (cong (Ev.now _) (by simp [entOk, h2]))
          · exact neg h2 (cong h (by rw [show entOk (rd_T51 l i) = true by simp [entOk, h1, h2, h3], Bool.true_and]; rfl))
        · exact neg h3 (cong (Ev.now _) (by rw [Bool.not_eq_true] at h3; simp [entOk, h3]))
      · exact neg h1 (cong (Ev.now _) (by rw [Bool.not_eq_true] at h1; simp [entOk, h1]))
  exact key l.length 0 0 (by omega) (by omega)

def GoodD (l : List S66) : Prop := l.length ≤ 7036874417766 ∧ ∀ d ∈ l, d.f2.length ≤ 5864062014634 ∧ ∀ x ∈ d.f2, x.f0.size ≤ 140737488351232
noncomputable def docOk (i : Int) (d : S66) : Bool := decide (d.f0 = i + 1) && (inB d.f1 0 999 && entriesB d.f2)
noncomputable def docsFrom : Int → List S66 → Bool
  | _, [] => true
  | i, d :: r => docOk i d && docsFrom (i + 1) r
noncomputable def docsB (l : List S66) : Bool := docsFrom 0 l && decide ((l.length : Int) ≤ 120)
theorem docs_s (l : List S66) (hg : GoodD l) : Ev (fun k => spec_AreDocuments.f k l) (docsB l) := by
  have hlen : l.length ≤ 7036874417766 := hg.1
  have key : ∀ (d : Nat) (i : Int), 0 ≤ i → (l.length : Int) - i = d → Ev (fun k => spec_AreDocuments.l0 k l i) (docsFrom i (l.drop i.toNat) && decide ((l.length : Int) ≤ 120)) := by
    intro d
    induction d with
    | zero =>
      intro i h0 hd
      have e : l.drop i.toNat = [] := List.drop_of_length_le (by omega)
      rw [e]
      exact Ev.step (fun k => spec_AreDocuments.l0.eq_2 l i k) (neg (by omega) (cong (Ev.now _) (by simp [docsFrom])))
    | succ d ih =>
      intro i h0 hd
      have hlt : i < (l.length : Int) := by omega
      have e : l.drop i.toNat = rd_T66 l i :: l.drop (i.toNat + 1) := drop_at l z66 i.toNat (by omega)
      have hm : rd_T66 l i ∈ l := getD_mem l _ _ (by omega)
      have hw : wrap64 (i + 1) = i + 1 := wrap_inc h0 hlt (by omega)
      have h := ih (i + 1) (by omega) (by omega)
      rw [show (i + 1).toNat = i.toNat + 1 by omega] at h
      rw [e]
      refine Ev.step (fun k => spec_AreDocuments.l0.eq_2 l i k) ?_
      rw [hw]
      refine pos hlt (pos h0 ?_)
      by_cases h1 : (rd_T66 l i).f0 = i + 1
      · refine pos h1 (known (in_s _ _ _) ?_)
        by_cases h2 : inB (rd_T66 l i).f1 0 999 = true
        · refine pos h2 (Ev.bind (entries_s _ (hg.2 _ hm)) ?_)
          by_cases h3 : entriesB (rd_T66 l i).f2 = true
          · exact pos h3 (cong h (by simp [docsFrom, docOk, h1, h2, h3]))
          · exact neg h3 (cong (Ev.now _) (by rw [Bool.not_eq_true] at h3; simp [docsFrom, docOk, h3]))
        · exact neg h2 (cong (Ev.now _) (by rw [Bool.not_eq_true] at h2; simp [docsFrom, docOk, h2]))
      · exact neg h1 (cong (Ev.now _) (by simp [docsFrom, docOk, h1]))
  exact key l.length 0 (by omega) (by omega)
theorem docs_i (l : List S66) (hg : GoodD l) : Ev (fun k => impl_AreDocuments.f k l) (docsB l) := by
  have hlen : l.length ≤ 7036874417766 := hg.1
  have key : ∀ (d : Nat) (i : Int), 0 ≤ i → (l.length : Int) - i = d → Ev (fun k => impl_AreDocuments.l0 k l l l.length i) (docsFrom i (l.drop i.toNat) && decide ((l.length : Int) ≤ 120)) := by
    intro d
    induction d with
    | zero =>
      intro i h0 hd
      have e : l.drop i.toNat = [] := List.drop_of_length_le (by omega)
      rw [e]
      exact Ev.step (fun k => impl_AreDocuments.l0.eq_2 l l l.length i k) (neg (by omega) (cong (Ev.now _) (by simp [docsFrom])))
    | succ d ih =>
      intro i h0 hd
      have hlt : i < (l.length : Int) := by omega
      have e : l.drop i.toNat = rd_T66 l i :: l.drop (i.toNat + 1) := drop_at l z66 i.toNat (by omega)
      have hm : rd_T66 l i ∈ l := getD_mem l _ _ (by omega)
      have hw : wrap64 (i + 1) = i + 1 := wrap_inc h0 hlt (by omega)
      have h := ih (i + 1) (by omega) (by omega)
      rw [show (i + 1).toNat = i.toNat + 1 by omega] at h
      rw [e]
      refine Ev.step (fun k => impl_AreDocuments.l0.eq_2 l l l.length i k) ?_
      rw [hw]
      refine pos hlt (pos h0 (pos hlt ?_))
      by_cases h1 : (rd_T66 l i).f0 = i + 1
      · refine pos h1 (known (in_i _ _ _) ?_)
        by_cases h2 : inB (rd_T66 l i).f1 0 999 = true
        · refine pos h2 (Ev.bind (entries_i _ (hg.2 _ hm)) ?_)
          by_cases h3 : entriesB (rd_T66 l i).f2 = true
          · exact pos h3 (cong h (by simp [docsFrom, docOk, h1, h2, h3]))
          · exact neg h3 (cong (Ev.now _) (by rw [Bool.not_eq_true] at h3; simp [docsFrom, docOk, h3]))
        · exact neg h2 (cong (Ev.now _) (by rw [Bool.not_eq_true] at h2; simp [docsFrom, docOk, h2]))
      · exact neg h1 (cong (Ev.now _) (by simp [docsFrom, docOk, h1]))
  exact key l.length 0 (by omega) (by omega)
def balE (a : ByteArray) (acc : Int) (l : List S51) : Int := l.foldl (fun s x => if x.f0.toList = a.toList then wrap64 (s + x.f1) else s) acc
def balD (a : ByteArray) (day : Int) (acc : Int) (l : List S66) : Int := l.foldl (fun s d => if d.f1 ≤ day then balE a s d.f2 else s) acc
noncomputable def balR (l : List S66) (a : ByteArray) (day : Int) : Int := if docsB l = true then balD a day 0 l else 0
theorem bal_s (l : List S66) (hg : GoodD l) (a : ByteArray) (day : Int) : Ev (fun k => spec_BalanceOf.f k l a day) (balR l a day) := by
  have hlen : l.length ≤ 7036874417766 := hg.1
  by_cases hv : docsB l = true
  · have inner : ∀ (i : Int) (F : Int → Int), 0 ≤ i → i < (l.length : Int) → (∀ acc, Ev (fun k => spec_BalanceOf.l0 k l a day acc (i + 1)) (F acc)) → ∀ (d : Nat) (acc j : Int), 0 ≤ j → ((rd_T66 l i).f2.length : Int) - j = d →
        Ev (fun k => spec_BalanceOf.l1 k l a day acc i j) (F (if (rd_T66 l i).f1 ≤ day then balE a acc ((rd_T66 l i).f2.drop j.toNat) else acc)) := by
      intro i F h0 hlt hF d
      have hm : rd_T66 l i ∈ l := getD_mem l _ _ (by omega)
      have hlm : (rd_T66 l i).f2.length ≤ 5864062014634 := (hg.2 _ hm).1
      have hw : wrap64 (i + 1) = i + 1 := wrap_inc h0 hlt (by omega)
      induction d with
      | zero =>
        intro acc j hj0 hd
        have e : (rd_T66 l i).f2.drop j.toNat = [] := List.drop_of_length_le (by omega)
        rw [e]
        refine Ev.step (fun k => spec_BalanceOf.l1.eq_2 l a day acc i j k) (pos h0 (pos hlt (neg (by omega) (Ev.step (fun k => spec_BalanceOf.j3.eq_2 l a day acc i j false k) (neg (by simp) ?_)))))
        rw [hw]
        exact cong (hF acc) (by simp [balE])
      | succ d ih =>
        intro acc j hj0 hd
        have hjl : j < ((rd_T66 l i).f2.length : Int) := by omega
        have hwj : wrap64 (j + 1) = j + 1 := wrap_inc hj0 hjl (by omega)
        refine Ev.step (fun k => spec_BalanceOf.l1.eq_2 l a day acc i j k) (pos h0 (pos hlt (pos hjl (Ev.step (fun k => spec_BalanceOf.j3.eq_2 l a day acc i j _ k) ?_))))
        rw [hw, hwj]
        by_cases hday : (rd_T66 l i).f1 ≤ day
        · have e : (rd_T66 l i).f2.drop j.toNat = rd_T51 (rd_T66 l i).f2 j :: (rd_T66 l i).f2.drop (j.toNat + 1) := drop_at _ z51 j.toNat (by omega)
          refine pos (by simp [hday]) (pos h0 (pos hlt (pos hj0 (pos hjl ?_))))
          rw [if_pos hday, e]
          by_cases hacc : (rd_T51 (rd_T66 l i).f2 j).f0.toList = a.toList
          · have h := ih (wrap64 (acc + (rd_T51 (rd_T66 l i).f2 j).f1)) (j + 1) (by omega) (by omega)
            rw [if_pos hday, show (j + 1).toNat = j.toNat + 1 by omega] at h
            exact pos hacc (cong h (by simp [balE, hacc]))
          · have h := ih acc (j + 1) (by omega) (by omega)
            rw [if_pos hday, show (j + 1).toNat = j.toNat + 1 by omega] at h
            exact neg hacc (cong h (by simp [balE, hacc]))
        · rw [if_neg hday]
          exact neg (by simp [hday]) (hF acc)
    have key : ∀ (d : Nat) (acc i : Int), 0 ≤ i → (l.length : Int) - i = d → Ev (fun k => spec_BalanceOf.l0 k l a day acc i) (balD a day acc (l.drop i.toNat)) := by
      intro d
      induction d with
      | zero =>
        intro acc i h0 hd
        have e : l.drop i.toNat = [] := List.drop_of_length_le (by omega)
        rw [e]
        exact Ev.step (fun k => spec_BalanceOf.l0.eq_2 l a day acc i k) (neg (by omega) (Ev.step (fun k => spec_BalanceOf.j1.eq_2 l a day acc i false k) (neg (by simp) (cong (Ev.now _) (by simp [balD])))))
      | succ d ih =>
        intro acc i h0 hd
        have hlt : i < (l.length : Int) := by omega
        have e : l.drop i.toNat = rd_T66 l i :: l.drop (i.toNat + 1) := drop_at l z66 i.toNat (by omega)
        refine Ev.step (fun k => spec_BalanceOf.l0.eq_2 l a day acc i k) (pos hlt (Ev.bind (docs_s l hg) (Ev.step (fun k => spec_BalanceOf.j1.eq_2 l a day acc i _ k) (pos hv ?_))))
        have hin := inner i (fun acc => balD a day acc (l.drop (i.toNat + 1))) h0 hlt (fun acc => by
          have h := ih acc (i + 1) (by omega) (by omega)
          rwa [show (i + 1).toNat = i.toNat + 1 by omega] at h) (rd_T66 l i).f2.length acc 0 (by omega) (by omega)
        refine cong hin ?_
        rw [e]
        simp [balD]
    unfold balR
    rw [if_pos hv]
    exact key l.length 0 0 (by omega) (by omega)
  · unfold balR
    rw [if_neg hv]
    refine Ev.step (fun k => spec_BalanceOf.l0.eq_2 l a day 0 0 k) ?_
    by_cases h0 : (0 : Int) < (l.length : Int)
    · exact pos h0 (Ev.bind (docs_s l hg) (Ev.step (fun k => spec_BalanceOf.j1.eq_2 l a day 0 0 _ k) (neg hv (Ev.now _))))
    · exact neg h0 (Ev.step (fun k => spec_BalanceOf.j1.eq_2 l a day 0 0 _ k) (neg (by simp) (Ev.now _)))
theorem bal_i (l : List S66) (hg : GoodD l) (a : ByteArray) (day : Int) : Ev (fun k => impl_BalanceOf.f k l a day) (balR l a day) := by
  have hlen : l.length ≤ 7036874417766 := hg.1
  refine Ev.bind (docs_i l hg) ?_
  unfold balR
  by_cases hv : docsB l = true
  · rw [if_pos hv]
    refine pos hv ?_
    have inner : ∀ (i : Int) (F : Int → Int), 0 ≤ i → i < (l.length : Int) → (∀ acc, Ev (fun k => impl_BalanceOf.l0 k a day acc l l.length (i + 1)) (F acc)) → ∀ (d : Nat) (acc j : Int), 0 ≤ j → ((rd_T66 l i).f2.length : Int) - j = d →
        Ev (fun k => impl_BalanceOf.l1 k a day acc l l.length i (rd_T66 l i).f2 ((rd_T66 l i).f2.length : Int) j (rd_T66 l i).f0 (rd_T66 l i).f1 (rd_T66 l i).f2) (F (if (rd_T66 l i).f1 ≤ day then balE a acc ((rd_T66 l i).f2.drop j.toNat) else acc)) := by
      intro i F h0 hlt hF d
      have hm : rd_T66 l i ∈ l := getD_mem l _ _ (by omega)
      have hlm : (rd_T66 l i).f2.length ≤ 5864062014634 := (hg.2 _ hm).1
      have hw : wrap64 (i + 1) = i + 1 := wrap_inc h0 hlt (by omega)
      induction d with
      | zero =>
        intro acc j hj0 hd
        have e : (rd_T66 l i).f2.drop j.toNat = [] := List.drop_of_length_le (by omega)
        rw [e]
        refine Ev.step (fun k => impl_BalanceOf.l1.eq_2 a day acc l l.length i _ _ j _ _ _ k) (neg (by omega) ?_)
        rw [hw]
        exact cong (hF acc) (by simp [balE])
      | succ d ih =>
        intro acc j hj0 hd
        have hjl : j < ((rd_T66 l i).f2.length : Int) := by omega
        have hwj : wrap64 (j + 1) = j + 1 := wrap_inc hj0 hjl (by omega)
        refine Ev.step (fun k => impl_BalanceOf.l1.eq_2 a day acc l l.length i _ _ j _ _ _ k) ?_
        rw [hwj]
        refine pos hjl (pos hj0 (pos hjl ?_))
        have e : (rd_T66 l i).f2.drop j.toNat = rd_T51 (rd_T66 l i).f2 j :: (rd_T66 l i).f2.drop (j.toNat + 1) := drop_at _ z51 j.toNat (by omega)
        by_cases hday : (rd_T66 l i).f1 ≤ day
        · rw [if_pos hday, e]
          refine pos hday ?_
          by_cases hacc : (rd_T51 (rd_T66 l i).f2 j).f0.toList = a.toList
          · have h := ih (wrap64 (acc + (rd_T51 (rd_T66 l i).f2 j).f1)) (j + 1) (by omega) (by omega)
            rw [if_pos hday, show (j + 1).toNat = j.toNat + 1 by omega] at h
            exact pos hacc (cong h (by simp [balE, hacc]))
          · have h := ih acc (j + 1) (by omega) (by omega)
            rw [if_pos hday, show (j + 1).toNat = j.toNat + 1 by omega] at h
            exact neg hacc (cong h (by simp [balE, hacc]))
        · have h := ih acc (j + 1) (by omega) (by omega)
          rw [if_neg hday] at h
          rw [if_neg hday]
          exact neg hday h
    have key : ∀ (d : Nat) (acc i : Int), 0 ≤ i → (l.length : Int) - i = d → Ev (fun k => impl_BalanceOf.l0 k a day acc l l.length i) (balD a day acc (l.drop i.toNat)) := by
      intro d
      induction d with
      | zero =>
        intro acc i h0 hd
        have e : l.drop i.toNat = [] := List.drop_of_length_le (by omega)
        rw [e]
        exact Ev.step (fun k => impl_BalanceOf.l0.eq_2 a day acc l l.length i k) (neg (by omega) (cong (Ev.now _) (by simp [balD])))
      | succ d ih =>
        intro acc i h0 hd
        have hlt : i < (l.length : Int) := by omega
        have e : l.drop i.toNat = rd_T66 l i :: l.drop (i.toNat + 1) := drop_at l z66 i.toNat (by omega)
        refine Ev.step (fun k => impl_BalanceOf.l0.eq_2 a day acc l l.length i k) (pos hlt (pos h0 (pos hlt ?_)))
        have hin := inner i (fun acc => balD a day acc (l.drop (i.toNat + 1))) h0 hlt (fun acc => by
          have h := ih acc (i + 1) (by omega) (by omega)
          rwa [show (i + 1).toNat = i.toNat + 1 by omega] at h) (rd_T66 l i).f2.length acc 0 (by omega) (by omega)
        refine cong hin ?_
        rw [e]
        simp [balD]
    exact key l.length 0 0 (by omega) (by omega)
  · rw [if_neg hv]
    exact neg hv (Ev.now _)
def cDocument (x : S64) : S66 := ⟨x.f0, x.f1, x.f2.map cEntry⟩
theorem toDocument_l0 (l : List S64) (hl : l.length ≤ 3518437208780) (hg : ∀ x ∈ l, x.f2.length ≤ 5864062014634) : ∀ (d : Nat) (acc : List S66) (i : Int), acc.length = l.length → 0 ≤ i → (l.length : Int) - i = d →
    Ev (fun k => laws_toDocumentS.l0 k l acc i) (acc.take i.toNat ++ (l.drop i.toNat).map cDocument) := by
  intro d
  induction d with
  | zero =>
    intro acc i ha h0 hd
    refine Ev.step (fun k => laws_toDocumentS.l0.eq_2 l acc i k) (neg (by omega) (cong (Ev.now _) ?_))
    rw [List.take_of_length_le (by omega), List.drop_of_length_le (by omega)]
    simp
  | succ d ih =>
    intro acc i ha h0 hd
    have hlt : i < (l.length : Int) := by omega
    have hm : rd_T64 l i ∈ l := getD_mem l _ _ (by omega)
    have hw : wrap64 (i + 1) = i + 1 := wrap_inc h0 hlt (by omega)
    have h := ih (acc.set i.toNat (cDocument (rd_T64 l i))) (i + 1) (by simpa using ha) (by omega) (by omega)
    rw [← hw] at h
    refine Ev.step (fun k => laws_toDocumentS.l0.eq_2 l acc i k) (pos hlt (pos h0 (Ev.bind (Ev.bind (toEntry_f _ (hg _ hm)) (Ev.now _)) (pos (by omega) (cong h ?_)))))
    rw [hw, show (i + 1).toNat = i.toNat + 1 by omega, set_take _ _ _ _ (by omega), drop_at l z64 i.toNat (by omega)]
    rfl
theorem toDocument_f (l : List S64) (hl : l.length ≤ 3518437208780) (hg : ∀ x ∈ l, x.f2.length ≤ 5864062014634) : Ev (fun k => laws_toDocumentS.f k l) (l.map cDocument) := by
  refine pos (by omega) (pos (by simp; omega) (cong (toDocument_l0 l hl hg l.length (List.replicate ((l.length : Int)).toNat z66) 0 (by simp) (by omega) (by omega)) ?_))
  simp
theorem eqDocument_f (a : List S66) (hl : a.length ≤ 7036874417766) (hg : ∀ x ∈ a, x.f2.length ≤ 5864062014634) : Ev (fun k => laws_eqDocumentS.f k a a) true := by
  have key : ∀ (d : Nat) (i : Int), 0 ≤ i → (a.length : Int) - i = d → Ev (fun k => laws_eqDocumentS.l0 k a a i) true := by
    intro d
    induction d with
    | zero =>
      intro i h0 hd
      exact Ev.step (fun k => laws_eqDocumentS.l0.eq_2 a a i k) (neg (by omega) (Ev.now _))
    | succ d ih =>
      intro i h0 hd
      have hlt : i < (a.length : Int) := by omega
      have hm : rd_T66 a i ∈ a := getD_mem a _ _ (by omega)
      have h := ih (i + 1) (by omega) (by omega)
      rw [← wrap_inc h0 hlt (by omega)] at h
      exact Ev.step (fun k => laws_eqDocumentS.l0.eq_2 a a i k) (pos hlt (pos h0 (pos hlt (Ev.bind (pos rfl (pos rfl (Ev.bind (eqEntry_f _ (hg _ hm)) (pos rfl (Ev.now true))))) (pos rfl h)))))
  exact pos rfl (key a.length 0 (by omega) (by omega))
theorem szDocument_f (l : List S64) (hl : l.length ≤ 3518437208780) (hg : ∀ d ∈ l, d.f2.length ≤ 5864062014634 ∧ ∀ x ∈ d.f2, x.f0.size ≤ 140737488351232) : ∃ r, Ev (fun k => laws_szDocumentS.f k l 1048576) r ∧ (0 ≤ r → l.length ≤ 1048576 ∧ ∀ d ∈ l, d.f2.length ≤ 1048576) ∧ (0 ≤ r → l.length + (l.map (fun d => d.f2.length)).sum ≤ 1048576) := by
  have key : ∀ (d : Nat) (i left : Int), 0 ≤ i → (l.length : Int) - i = d → -1 ≤ left → left ≤ 1048576 → ∃ r, Ev (fun k => laws_szDocumentS.l0 k l left i) r ∧ -1 ≤ r ∧ r ≤ left ∧ (0 ≤ r → r + (((l.drop i.toNat).map (fun d => d.f2.length)).sum : Nat) ≤ left) := by
    intro d
    induction d with
    | zero =>
      intro i left h0 hd h1 h2
      have e : l.drop i.toNat = [] := List.drop_of_length_le (by omega)
      exact ⟨left, Ev.step (fun k => laws_szDocumentS.l0.eq_2 l left i k) (neg (by omega) (Ev.now _)), h1, by omega, fun _ => by simp [e]⟩
    | succ d ih =>
      intro i left h0 hd h1 h2
      have hlt : i < (l.length : Int) := by omega
      have hm : rd_T64 l i ∈ l := getD_mem l _ _ (by omega)
      have e : l.drop i.toNat = rd_T64 l i :: l.drop (i.toNat + 1) := drop_at l z64 i.toNat (by omega)
      obtain ⟨r1, e1, b1, b2, b3⟩ := szEntry_f _ (hg _ hm).1 (hg _ hm).2 left h1 h2
      by_cases hneg : r1 < 0
      · exact ⟨-1, Ev.step (fun k => laws_szDocumentS.l0.eq_2 l left i k) (pos hlt (pos h0 (Ev.bind (Ev.bind e1 (pos hneg (Ev.now (-1)))) (pos (by omega) (Ev.now _))))), by omega, h1, by omega⟩
      · obtain ⟨r, hr, h3, h4, h5⟩ := ih (i + 1) r1 (by omega) (by omega) (by omega) (by omega)
        rw [← wrap_inc h0 hlt (by omega)] at hr
        refine ⟨r, Ev.step (fun k => laws_szDocumentS.l0.eq_2 l left i k) (pos hlt (pos h0 (Ev.bind (Ev.bind e1 (neg hneg (Ev.now r1))) (neg hneg hr)))), h3, by omega, fun h0r => ?_⟩
        have := h5 h0r
        have := b3 (by omega)
        rw [e, List.map_cons, List.sum_cons]
        rw [show (i + 1).toNat = i.toNat + 1 by omega] at *
        omega
  have hw : wrap64 (1048576 - (l.length : Int)) = 1048576 - (l.length : Int) := wrap_in (by omega) (by omega)
  have hsum : ∀ d ∈ l, d.f2.length ≤ (l.map (fun d => d.f2.length)).sum := fun d hd => le_sum (List.mem_map.2 ⟨d, hd, rfl⟩)
  by_cases hneg : 1048576 - (l.length : Int) < 0
  · exact ⟨-1, pos (by rw [hw]; exact hneg) (Ev.now _), by omega, by omega⟩
  · obtain ⟨r, hr, h3, h4, h5⟩ := key l.length 0 (1048576 - (l.length : Int)) (by omega) (by omega) (by omega) (by omega)
    rw [← hw] at hr
    simp only [Int.toNat_zero, List.drop_zero] at h5
    refine ⟨r, neg (by rw [hw]; exact hneg) hr, fun h => ⟨by omega, fun d hd => ?_⟩, fun h => ?_⟩
    · have := h5 h
      have := hsum d hd
      omega
    · have := h5 h
      omega
/-- What a law's argument tells of the lists. -/
theorem good_of {l : List S64} (g : l.length * 40 ≤ 140737488351232 ∧ ∀ d ∈ l, (Lit.int .i64 d.f0).wf = true ∧ (Lit.int .i64 d.f1).wf = true ∧ d.f2.length * 24 ≤ 140737488351232 ∧ ∀ x ∈ d.f2, x.f0.size ≤ 140737488351232 ∧ (Lit.int .i64 x.f1).wf = true) :
    l.length ≤ 3518437208780 ∧ (∀ d ∈ l, d.f2.length ≤ 5864062014634 ∧ ∀ x ∈ d.f2, x.f0.size ≤ 140737488351232) ∧ GoodD (l.map cDocument) := by
  have h1 : l.length ≤ 3518437208780 := by omega
  have h2 : ∀ d ∈ l, d.f2.length ≤ 5864062014634 ∧ ∀ x ∈ d.f2, x.f0.size ≤ 140737488351232 := fun d hd => ⟨by have := (g.2 d hd).2.2.1; omega, fun x hx => ((g.2 d hd).2.2.2 x hx).1⟩
  refine ⟨h1, h2, by simp; omega, fun d hd => ?_⟩
  obtain ⟨y, hy, rfl⟩ := List.mem_map.1 hd
  refine ⟨by simpa [cDocument] using (h2 y hy).1, fun x hx => ?_⟩
  obtain ⟨z, hz, rfl⟩ := List.mem_map.1 (show x ∈ y.f2.map cEntry from hx)
  exact (h2 y hy).2 z hz

theorem profit_eq (a b : Int) : wrap64 (wrap64 (-a) - b) = wrap64 (-(wrap64 (a + b))) := by
  unfold wrap64
  omega
theorem FnExactProfitOn (l : List S64) (g : l.length * 40 ≤ 140737488351232 ∧ ∀ d ∈ l, (Lit.int .i64 d.f0).wf = true ∧ (Lit.int .i64 d.f1).wf = true ∧ d.f2.length * 24 ≤ 140737488351232 ∧ ∀ x ∈ d.f2, x.f0.size ≤ 140737488351232 ∧ (Lit.int .i64 x.f1).wf = true) (day : Int) (w : (Lit.int .i64 day).wf = true) : ∃ k, laws_FnExactProfitOn.f k l day = some true := by
  obtain ⟨h1, h2, h3⟩ := good_of g
  obtain ⟨r, hr, _⟩ := szDocument_f l h1 h2
  have hto := toDocument_f l h1 (fun x hx => (h2 x hx).1)
  refine Ev.rounds (Ev.bind hr ?_)
  by_cases hn : r < 0
  · exact pos hn (Ev.now _)
  · exact neg hn (Ev.bind hto (Ev.bind (Ev.bind (bal_s _ h3 _ day) (Ev.bind (bal_s _ h3 _ day) (Ev.now _))) (Ev.bind hto (Ev.bind (Ev.bind (bal_i _ h3 _ day) (Ev.bind (bal_i _ h3 _ day) (Ev.now _))) (pos (profit_eq _ _).symm (Ev.bind hto (Ev.bind (eqDocument_f _ h3.1 (fun x hx => (h3.2 x hx).1)) (pos rfl (Ev.now _)))))))))

end Go.Proofs.Ytjhjeghgeclglaa.PureFnExactProfitOn
