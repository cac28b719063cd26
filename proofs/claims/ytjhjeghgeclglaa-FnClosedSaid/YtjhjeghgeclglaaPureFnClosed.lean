/- Plain laws for FnClosed (what the printed functions compute). -/
import Derived.Test.YtjhjeghgeclglaaPFnClosedx
import Derived.Test.YtjhjeghgeclglaaEv
import Derived.Test.YtjhjeghgeclglaaWkFnClosed
namespace Go.Proofs.Ytjhjeghgeclglaa.PureFnClosed
open Go.RowKit Go.Proofs.Ytjhjeghgeclglaa.PFnClosed Go.Proofs.YtjhjeghgeclglaaW.PrintWords Go.Proofs.YtjhjeghgeclglaaW.PrintLast Go.Proofs.YtjhjeghgeclglaaW.PrintMore Go.Proofs.YtjhjeghgeclglaaEv
set_option linter.unusedVariables false
def inB (a b c : Int) : Bool := decide (a ≥ b) && decide (a ≤ c)
theorem inB_iff {a b c : Int} : inB a b c = true ↔ b ≤ a ∧ a ≤ c := by simp [inB]
theorem in_s (a b c : Int) : spec_l1In.f a b c = some (inB a b c) := by
 unfold spec_l1In.f inB
 by_cases h : a ≥ b <;> simp [h]
theorem in_i (a b c : Int) : impl_in.f a b c = some (inB a b c) := in_s a b c
theorem code_ex (s : ByteArray) (hs : s.size ≤ 140737488351232) : ∃ b, Ev (fun k => spec_IsCode.f k s) b := by
 have key : ∀ (d : Nat) (i : Int), 0 ≤ i → (s.size : Int) - i ≤ d → ∃ b, Ev (fun k => spec_IsCode.l0 k s i) b := by
  intro d
  induction d with
  | zero =>
   intro i h0 hd
   refine ex_step (fun k => spec_IsCode.l0.eq_2 s i k) ?_
   repeat (first | exact ex_now _ | (exfalso; omega) | refine ex_ite (fun _ => ?_) (fun _ => ?_))
  | succ d ih =>
   intro i h0 hd
   refine ex_step (fun k => spec_IsCode.l0.eq_2 s i k) ?_
   refine ex_ite (fun hlt => ?_) (fun _ => ?_)
   ·have hw : wrap64 (i + 1) = i + 1 := wrap_inc h0 hlt (by omega)
    have ih' := ih (i + 1) (by omega) (by omega)
    rw [hw]
    repeat (first | exact ex_now _ | exact ih' | (exfalso; omega) | refine ex_ite (fun _ => ?_) (fun _ => ?_))
   ·repeat (first | exact ex_now _ | refine ex_ite (fun _ => ?_) (fun _ => ?_))
 exact key s.size 0 (by omega) (by omega)
open Classical in
noncomputable def codeB (s : ByteArray) : Bool := if h : ∃ b, Ev (fun k => spec_IsCode.f k s) b then h.choose else false
theorem code_s {s : ByteArray} (hs : s.size ≤ 140737488351232) : Ev (fun k => spec_IsCode.f k s) (codeB s) := by
 have h := code_ex s hs
 unfold codeB
 rw [dif_pos h]
 exact h.choose_spec
theorem code_l0 : ∀ k s i, impl_IsCode.l0 k s i = spec_IsCode.l0 k s i := by
 intro k
 induction k with
 | zero => intros; rfl
 | succ k ih => intro s i; simp only [impl_IsCode.l0, spec_IsCode.l0, ih]
theorem code_i {s : ByteArray} (hs : s.size ≤ 140737488351232) : Ev (fun k => impl_IsCode.f k s) (codeB s) := Ev.congr (fun k => code_l0 k s 0) (code_s hs)

noncomputable def entOk (x : S51) : Bool := codeB x.f0 && (inB x.f1 (-1000000000) 1000000000 && decide (x.f1 ≠ 0))
theorem entOk_iff {x : S51} : entOk x = true ↔ codeB x.f0 = true ∧ (-1000000000 ≤ x.f1 ∧ x.f1 ≤ 1000000000) ∧ x.f1 ≠ 0 := by simp [entOk, inB_iff]
def sumW (acc : Int) (l : List S51) : Int := l.foldl (fun s x => wrap64 (s + x.f1)) acc
noncomputable def entriesB (l : List S51) : Bool := l.all entOk && (inB l.length 2 12 && decide (sumW 0 l = 0))
theorem entries_s (l : List S51) (hg : l.length ≤ 5864062014634 ∧ ∀ x ∈ l, x.f0.size ≤ 140737488351232) : Ev (fun k => spec_AreEntries.f k l) (entriesB l) := by
 have key : ∀ (d : Nat) (acc i : Int), 0 ≤ i → (l.length : Int) - i = d → Ev (fun k => spec_AreEntries.l0 k l acc i) ((l.drop i.toNat).all entOk && (inB l.length 2 12 && decide (sumW acc (l.drop i.toNat) = 0))) := by
  intro d
  induction d with
  | zero =>
   intro acc i h0 hd
   have e : l.drop i.toNat = [] := List.drop_of_length_le (by omega)
   rw [e]
   refine Ev.step (fun k => spec_AreEntries.l0.eq_2 l acc i k) (neg (by omega) ?_)
   by_cases ha : acc = 0
   ·exact pos ha (known (in_s _ _ _) (cong (Ev.now _) (by simp [sumW, ha])))
   ·exact neg ha (cong (Ev.now _) (by simp [sumW, ha]))
  | succ d ih =>
   intro acc i h0 hd
   have hlt : i < (l.length : Int) := by omega
   have e : l.drop i.toNat = rd_T51 l i :: l.drop (i.toNat + 1) := drop_at l z51 i.toNat (by omega)
   have hm : rd_T51 l i ∈ l := getD_mem l _ _ (by omega)
   have h := ih (wrap64 (acc + (rd_T51 l i).f1)) (i + 1) (by omega) (by omega)
   rw [show (i + 1).toNat = i.toNat + 1 by omega, ← wrap_inc h0 hlt (by omega)] at h
   rw [e, List.all_cons]
   refine Ev.step (fun k => spec_AreEntries.l0.eq_2 l acc i k) (pos hlt (pos h0 (Ev.bind (code_s (hg.2 _ hm)) ?_)))
   by_cases h1 : codeB (rd_T51 l i).f0 = true
   ·refine pos h1 ?_
    by_cases h2 : (rd_T51 l i).f1 = 0
    ·exact pos h2 (cong (Ev.now _) (by simp [entOk, h2]))
    ·refine neg h2 (known (in_s _ _ _) ?_)
     by_cases h3 : inB (rd_T51 l i).f1 (-1000000000) 1000000000 = true
     ·exact pos h3 (cong h (by rw [show entOk (rd_T51 l i) = true by simp [entOk, h1, h2, h3], Bool.true_and]; rfl))
     ·exact neg h3 (cong (Ev.now _) (by rw [Bool.not_eq_true] at h3; simp [entOk, h3]))
   ·exact neg h1 (cong (Ev.now _) (by rw [Bool.not_eq_true] at h1; simp [entOk, h1]))
 exact key l.length 0 0 (by omega) (by omega)
theorem entries_i (l : List S51) (hg : l.length ≤ 5864062014634 ∧ ∀ x ∈ l, x.f0.size ≤ 140737488351232) : Ev (fun k => impl_AreEntries.f k l) (entriesB l) := by
 have key : ∀ (d : Nat) (acc i : Int), 0 ≤ i → (l.length : Int) - i = d → Ev (fun k => impl_AreEntries.l0 k l acc l l.length i) ((l.drop i.toNat).all entOk && (inB l.length 2 12 && decide (sumW acc (l.drop i.toNat) = 0))) := by
  intro d
  induction d with
  | zero =>
   intro acc i h0 hd
   have e : l.drop i.toNat = [] := List.drop_of_length_le (by omega)
   rw [e]
   refine Ev.step (fun k => impl_AreEntries.l0.eq_2 l acc l l.length i k) (neg (by omega) (known (in_i _ _ _) ?_))
   by_cases ha : inB (l.length : Int) 2 12 = true
   ·exact pos ha (cong (Ev.now _) (by rw [ha, Bool.true_and]; show (acc == 0) = (true && decide (acc = 0)); rw [Bool.true_and, Bool.eq_iff_iff, beq_iff_eq, decide_eq_true_iff]))
   ·exact neg ha (cong (Ev.now _) (by rw [Bool.not_eq_true] at ha; simp [ha]))
  | succ d ih =>
   intro acc i h0 hd
   have hlt : i < (l.length : Int) := by omega
   have e : l.drop i.toNat = rd_T51 l i :: l.drop (i.toNat + 1) := drop_at l z51 i.toNat (by omega)
   have hm : rd_T51 l i ∈ l := getD_mem l _ _ (by omega)
   have h := ih (wrap64 (acc + (rd_T51 l i).f1)) (i + 1) (by omega) (by omega)
   rw [show (i + 1).toNat = i.toNat + 1 by omega, ← wrap_inc h0 hlt (by omega)] at h
   rw [e, List.all_cons]
   refine Ev.step (fun k => impl_AreEntries.l0.eq_2 l acc l l.length i k) (pos hlt (pos h0 (pos hlt (Ev.bind (code_i (hg.2 _ hm)) ?_))))
   by_cases h1 : codeB (rd_T51 l i).f0 = true
   ·refine pos h1 (known (in_i _ _ _) ?_)
    by_cases h3 : inB (rd_T51 l i).f1 (-1000000000) 1000000000 = true
    ·refine pos h3 ?_
     by_cases h2 : (rd_T51 l i).f1 = 0
     ·exact pos h2 (cong (Ev.now _) (by simp [entOk, h2]))
     ·exact neg h2 (cong h (by rw [show entOk (rd_T51 l i) = true by simp [entOk, h1, h2, h3], Bool.true_and]; rfl))
    ·exact neg h3 (cong (Ev.now _) (by rw [Bool.not_eq_true] at h3; simp [entOk, h3]))
   ·exact neg h1 (cong (Ev.now _) (by rw [Bool.not_eq_true] at h1; simp [entOk, h1]))
 exact key l.length 0 0 (by omega) (by omega)

def GoodD (l : List S66) : Prop := l.length ≤ 7036874417766 ∧ ∀ d ∈ l, d.f2.length ≤ 5864062014634 ∧ ∀ x ∈ d.f2, x.f0.size ≤ 140737488351232
noncomputable def docOk (i : Int) (d : S66) : Bool := decide (d.f0 = i + 1) && (inB d.f1 0 999 && entriesB d.f2)
noncomputable def docsFrom : Int → List S66 → Bool
 | _, [] => true
 | i, d :: r => docOk i d && docsFrom (i + 1) r
noncomputable def docsB (l : List S66) : Bool := docsFrom 0 l && decide ((l.length : Int) ≤ 120)
theorem docs_s (l : List S66) (hg : GoodD l) : Ev (fun k => spec_AreDocuments.f k l) (docsB l) := by
 have hlen : l.length ≤ 7036874417766 := hg.1
 have key : ∀ (d : Nat) (i : Int), 0 ≤ i → (l.length : Int) - i = d → Ev (fun k => spec_AreDocuments.l0 k l i) (docsFrom i (l.drop i.toNat) && decide ((l.length : Int) ≤ 120)) := by
  intro d
  induction d with
  | zero =>
   intro i h0 hd
   have e : l.drop i.toNat = [] := List.drop_of_length_le (by omega)
   rw [e]
   exact Ev.step (fun k => spec_AreDocuments.l0.eq_2 l i k) (neg (by omega) (cong (Ev.now _) (by simp [docsFrom])))
  | succ d ih =>
   intro i h0 hd
   have hlt : i < (l.length : Int) := by omega
   have e : l.drop i.toNat = rd_T66 l i :: l.drop (i.toNat + 1) := drop_at l z66 i.toNat (by omega)
   have hm : rd_T66 l i ∈ l := getD_mem l _ _ (by omega)
   have hw : wrap64 (i + 1) = i + 1 := wrap_inc h0 hlt (by omega)
   have h := ih (i + 1) (by omega) (by omega)
   rw [show (i + 1).toNat = i.toNat + 1 by omega] at h
   rw [e]
   refine Ev.step (fun k => spec_AreDocuments.l0.eq_2 l i k) ?_
   rw [hw]
   refine pos hlt (pos h0 ?_)
   by_cases h1 : (rd_T66 l i).f0 = i + 1
   ·refine pos h1 (known (in_s _ _ _) ?_)
    by_cases h2 : inB (rd_T66 l i).f1 0 999 = true
    ·refine pos h2 (Ev.bind (entries_s _ (hg.2 _ hm)) ?_)
     by_cases h3 : entriesB (rd_T66 l i).f2 = true
     ·exact pos h3 (cong h (by simp [docsFrom, docOk, h1, h2, h3]))
     ·exact neg h3 (cong (Ev.now _) (by rw [Bool.not_eq_true] at h3; simp [docsFrom, docOk, h3]))
    ·exact neg h2 (cong (Ev.now _) (by rw [Bool.not_eq_true] at h2; simp [docsFrom, docOk, h2]))
   ·exact neg h1 (cong (Ev.now _) (by simp [docsFrom, docOk, h1]))
 exact key l.length 0 (by omega) (by omega)
theorem docs_i (l : List S66) (hg : GoodD l) : Ev (fun k => impl_AreDocuments.f k l) (docsB l) := by
 have hlen : l.length ≤ 7036874417766 := hg.1
 have key : ∀ (d : Nat) (i : Int), 0 ≤ i → (l.length : Int) - i = d → Ev (fun k => impl_AreDocuments.l0 k l l l.length i) (docsFrom i (l.drop i.toNat) && decide ((l.length : Int) ≤ 120)) := by
  intro d
  induction d with
  | zero =>
   intro i h0 hd
   have e : l.drop i.toNat = [] := List.drop_of_length_le (by omega)
   rw [e]
   exact Ev.step (fun k => impl_AreDocuments.l0.eq_2 l l l.length i k) (neg (by omega) (cong (Ev.now _) (by simp [docsFrom])))
  | succ d ih =>
   intro i h0 hd
   have hlt : i < (l.length : Int) := by omega
   have e : l.drop i.toNat = rd_T66 l i :: l.drop (i.toNat + 1) := drop_at l z66 i.toNat (by omega)
   have hm : rd_T66 l i ∈ l := getD_mem l _ _ (by omega)
   have hw : wrap64 (i + 1) = i + 1 := wrap_inc h0 hlt (by omega)
   have h := ih (i + 1) (by omega) (by omega)
   rw [show (i + 1).toNat = i.toNat + 1 by omega] at h
   rw [e]
   refine Ev.step (fun k => impl_AreDocuments.l0.eq_2 l l l.length i k) ?_
   rw [hw]
   refine pos hlt (pos h0 (pos hlt ?_))
   by_cases h1 : (rd_T66 l i).f0 = i + 1
   ·refine pos h1 (known (in_i _ _ _) ?_)
    by_cases h2 : inB (rd_T66 l i).f1 0 999 = true
    ·refine pos h2 (Ev.bind (entries_i _ (hg.2 _ hm)) ?_)
     by_cases h3 : entriesB (rd_T66 l i).f2 = true
     ·exact pos h3 (cong h (by simp [docsFrom, docOk, h1, h2, h3]))
     ·exact neg h3 (cong (Ev.now _) (by rw [Bool.not_eq_true] at h3; simp [docsFrom, docOk, h3]))
    ·exact neg h2 (cong (Ev.now _) (by rw [Bool.not_eq_true] at h2; simp [docsFrom, docOk, h2]))
   ·exact neg h1 (cong (Ev.now _) (by simp [docsFrom, docOk, h1]))
 exact key l.length 0 (by omega) (by omega)
def balE (a : ByteArray) (acc : Int) (l : List S51) : Int := l.foldl (fun s x => if x.f0.toList = a.toList then wrap64 (s + x.f1) else s) acc
def balD (a : ByteArray) (day : Int) (acc : Int) (l : List S66) : Int := l.foldl (fun s d => if d.f1 ≤ day then balE a s d.f2 else s) acc
noncomputable def balR (l : List S66) (a : ByteArray) (day : Int) : Int := if docsB l = true then balD a day 0 l else 0
theorem bal_s (l : List S66) (hg : GoodD l) (a : ByteArray) (day : Int) : Ev (fun k => spec_BalanceOf.f k l a day) (balR l a day) := by
 have hlen : l.length ≤ 7036874417766 := hg.1
 by_cases hv : docsB l = true
 ·have inner : ∀ (i : Int) (F : Int → Int), 0 ≤ i → i < (l.length : Int) → (∀ acc, Ev (fun k => spec_BalanceOf.l0 k l a day acc (i + 1)) (F acc)) → ∀ (d : Nat) (acc j : Int), 0 ≤ j → ((rd_T66 l i).f2.length : Int) - j = d →
    Ev (fun k => spec_BalanceOf.l1 k l a day acc i j) (F (if (rd_T66 l i).f1 ≤ day then balE a acc ((rd_T66 l i).f2.drop j.toNat) else acc)) := by
   intro i F h0 hlt hF d
   have hm : rd_T66 l i ∈ l := getD_mem l _ _ (by omega)
   have hlm : (rd_T66 l i).f2.length ≤ 5864062014634 := (hg.2 _ hm).1
   have hw : wrap64 (i + 1) = i + 1 := wrap_inc h0 hlt (by omega)
   induction d with
   | zero =>
    intro acc j hj0 hd
    have e : (rd_T66 l i).f2.drop j.toNat = [] := List.drop_of_length_le (by omega)
    rw [e]
    refine Ev.step (fun k => spec_BalanceOf.l1.eq_2 l a day acc i j k) (pos h0 (pos hlt (neg (by omega) (Ev.step (fun k => spec_BalanceOf.j3.eq_2 l a day acc i j false k) (neg (by simp) ?_)))))
    rw [hw]
    exact cong (hF acc) (by simp [balE])
   | succ d ih =>
    intro acc j hj0 hd
    have hjl : j < ((rd_T66 l i).f2.length : Int) := by omega
    have hwj : wrap64 (j + 1) = j + 1 := wrap_inc hj0 hjl (by omega)
    refine Ev.step (fun k => spec_BalanceOf.l1.eq_2 l a day acc i j k) (pos h0 (pos hlt (pos hjl (Ev.step (fun k => spec_BalanceOf.j3.eq_2 l a day acc i j _ k) ?_))))
    rw [hw, hwj]
    by_cases hday : (rd_T66 l i).f1 ≤ day
    ·have e : (rd_T66 l i).f2.drop j.toNat = rd_T51 (rd_T66 l i).f2 j :: (rd_T66 l i).f2.drop (j.toNat + 1) := drop_at _ z51 j.toNat (by omega)
     refine pos (by simp [hday]) (pos h0 (pos hlt (pos hj0 (pos hjl ?_))))
     rw [if_pos hday, e]
     by_cases hacc : (rd_T51 (rd_T66 l i).f2 j).f0.toList = a.toList
     ·have h := ih (wrap64 (acc + (rd_T51 (rd_T66 l i).f2 j).f1)) (j + 1) (by omega) (by omega)
      rw [if_pos hday, show (j + 1).toNat = j.toNat + 1 by omega] at h
      exact pos hacc (cong h (by simp [balE, hacc]))
     ·have h := ih acc (j + 1) (by omega) (by omega)
      rw [if_pos hday, show (j + 1).toNat = j.toNat + 1 by omega] at h
      exact neg hacc (cong h (by simp [balE, hacc]))
    ·rw [if_neg hday]
     exact neg (by simp [hday]) (hF acc)
  have key : ∀ (d : Nat) (acc i : Int), 0 ≤ i → (l.length : Int) - i = d → Ev (fun k => spec_BalanceOf.l0 k l a day acc i) (balD a day acc (l.drop i.toNat)) := by
   intro d
   induction d with
   | zero =>
    intro acc i h0 hd
    have e : l.drop i.toNat = [] := List.drop_of_length_le (by omega)
    rw [e]
    exact Ev.step (fun k => spec_BalanceOf.l0.eq_2 l a day acc i k) (neg (by omega) (Ev.step (fun k => spec_BalanceOf.j1.eq_2 l a day acc i false k) (neg (by simp) (cong (Ev.now _) (by simp [balD])))))
   | succ d ih =>
    intro acc i h0 hd
    have hlt : i < (l.length : Int) := by omega
    have e : l.drop i.toNat = rd_T66 l i :: l.drop (i.toNat + 1) := drop_at l z66 i.toNat (by omega)
    refine Ev.step (fun k => spec_BalanceOf.l0.eq_2 l a day acc i k) (pos hlt (Ev.bind (docs_s l hg) (Ev.step (fun k => spec_BalanceOf.j1.eq_2 l a day acc i _ k) (pos hv ?_))))
    have hin := inner i (fun acc => balD a day acc (l.drop (i.toNat + 1))) h0 hlt (fun acc => by
     have h := ih acc (i + 1) (by omega) (by omega)
     rwa [show (i + 1).toNat = i.toNat + 1 by omega] at h) (rd_T66 l i).f2.length acc 0 (by omega) (by omega)
    refine cong hin ?_
    rw [e]
    simp [balD]
  unfold balR
  rw [if_pos hv]
  exact key l.length 0 0 (by omega) (by omega)
 ·unfold balR
  rw [if_neg hv]
  refine Ev.step (fun k => spec_BalanceOf.l0.eq_2 l a day 0 0 k) ?_
  by_cases h0 : (0 : Int) < (l.length : Int)
  ·exact pos h0 (Ev.bind (docs_s l hg) (Ev.step (fun k => spec_BalanceOf.j1.eq_2 l a day 0 0 _ k) (neg hv (Ev.now _))))
  ·exact neg h0 (Ev.step (fun k => spec_BalanceOf.j1.eq_2 l a day 0 0 _ k) (neg (by simp) (Ev.now _)))
theorem bal_i (l : List S66) (hg : GoodD l) (a : ByteArray) (day : Int) : Ev (fun k => impl_BalanceOf.f k l a day) (balR l a day) := by
 have hlen : l.length ≤ 7036874417766 := hg.1
 refine Ev.bind (docs_i l hg) ?_
 unfold balR
 by_cases hv : docsB l = true
 ·rw [if_pos hv]
  refine pos hv ?_
  have inner : ∀ (i : Int) (F : Int → Int), 0 ≤ i → i < (l.length : Int) → (∀ acc, Ev (fun k => impl_BalanceOf.l0 k a day acc l l.length (i + 1)) (F acc)) → ∀ (d : Nat) (acc j : Int), 0 ≤ j → ((rd_T66 l i).f2.length : Int) - j = d →
    Ev (fun k => impl_BalanceOf.l1 k a day acc l l.length i (rd_T66 l i).f2 ((rd_T66 l i).f2.length : Int) j (rd_T66 l i).f0 (rd_T66 l i).f1 (rd_T66 l i).f2) (F (if (rd_T66 l i).f1 ≤ day then balE a acc ((rd_T66 l i).f2.drop j.toNat) else acc)) := by
   intro i F h0 hlt hF d
   have hm : rd_T66 l i ∈ l := getD_mem l _ _ (by omega)
   have hlm : (rd_T66 l i).f2.length ≤ 5864062014634 := (hg.2 _ hm).1
   have hw : wrap64 (i + 1) = i + 1 := wrap_inc h0 hlt (by omega)
   induction d with
   | zero =>
    intro acc j hj0 hd
    have e : (rd_T66 l i).f2.drop j.toNat = [] := List.drop_of_length_le (by omega)
    rw [e]
    refine Ev.step (fun k => impl_BalanceOf.l1.eq_2 a day acc l l.length i _ _ j _ _ _ k) (neg (by omega) ?_)
    rw [hw]
    exact cong (hF acc) (by simp [balE])
   | succ d ih =>
    intro acc j hj0 hd
    have hjl : j < ((rd_T66 l i).f2.length : Int) := by omega
    have hwj : wrap64 (j + 1) = j + 1 := wrap_inc hj0 hjl (by omega)
    refine Ev.step (fun k => impl_BalanceOf.l1.eq_2 a day acc l l.length i _ _ j _ _ _ k) ?_
    rw [hwj]
    refine pos hjl (pos hj0 (pos hjl ?_))
    have e : (rd_T66 l i).f2.drop j.toNat = rd_T51 (rd_T66 l i).f2 j :: (rd_T66 l i).f2.drop (j.toNat + 1) := drop_at _ z51 j.toNat (by omega)
    by_cases hday : (rd_T66 l i).f1 ≤ day
    ·rw [if_pos hday, e]
     refine pos hday ?_
     by_cases hacc : (rd_T51 (rd_T66 l i).f2 j).f0.toList = a.toList
     ·have h := ih (wrap64 (acc + (rd_T51 (rd_T66 l i).f2 j).f1)) (j + 1) (by omega) (by omega)
      rw [if_pos hday, show (j + 1).toNat = j.toNat + 1 by omega] at h
      exact pos hacc (cong h (by simp [balE, hacc]))
     ·have h := ih acc (j + 1) (by omega) (by omega)
      rw [if_pos hday, show (j + 1).toNat = j.toNat + 1 by omega] at h
      exact neg hacc (cong h (by simp [balE, hacc]))
    ·have h := ih acc (j + 1) (by omega) (by omega)
     rw [if_neg hday] at h
     rw [if_neg hday]
     exact neg hday h
  have key : ∀ (d : Nat) (acc i : Int), 0 ≤ i → (l.length : Int) - i = d → Ev (fun k => impl_BalanceOf.l0 k a day acc l l.length i) (balD a day acc (l.drop i.toNat)) := by
   intro d
   induction d with
   | zero =>
    intro acc i h0 hd
    have e : l.drop i.toNat = [] := List.drop_of_length_le (by omega)
    rw [e]
    exact Ev.step (fun k => impl_BalanceOf.l0.eq_2 a day acc l l.length i k) (neg (by omega) (cong (Ev.now _) (by simp [balD])))
   | succ d ih =>
    intro acc i h0 hd
    have hlt : i < (l.length : Int) := by omega
    have e : l.drop i.toNat = rd_T66 l i :: l.drop (i.toNat + 1) := drop_at l z66 i.toNat (by omega)
    refine Ev.step (fun k => impl_BalanceOf.l0.eq_2 a day acc l l.length i k) (pos hlt (pos h0 (pos hlt ?_)))
    have hin := inner i (fun acc => balD a day acc (l.drop (i.toNat + 1))) h0 hlt (fun acc => by
     have h := ih acc (i + 1) (by omega) (by omega)
     rwa [show (i + 1).toNat = i.toNat + 1 by omega] at h) (rd_T66 l i).f2.length acc 0 (by omega) (by omega)
    refine cong hin ?_
    rw [e]
    simp [balD]
  exact key l.length 0 0 (by omega) (by omega)
 ·rw [if_neg hv]
  exact neg hv (Ev.now _)

theorem and255 (n : Int) : Go.bits .and .i64 n 255 = n % 256 := by
 have h255 : (BitVec.ofInt 64 255).toNat = 2 ^ 8 - 1 := by decide
 have key : (BitVec.ofInt 64 n &&& BitVec.ofInt 64 255).toNat = (n % ((2 ^ 64 : Nat) : Int)).toNat % 2 ^ 8 := by
  rw [BitVec.toNat_and, BitVec.toNat_ofInt, h255, Nat.and_two_pow_sub_one_eq_mod]
 show IntKind.i64.wrap ((BitVec.ofInt 64 n &&& BitVec.ofInt 64 255).toNat : Nat) = n % 256
 rw [key, IntKind.wrap_i64]
 omega
theorem byte_ok (l : List Int) (i h : Int) (hl : l.length ≤ 140737488351232) (h0 : 0 ≤ i) : ∃ v i' h', spec_l1Byte.f l i h = some (v, i', h') ∧ 0 ≤ i' ∧ 0 ≤ v ∧ v ≤ 255 := by
 unfold spec_l1Byte.f
 by_cases hlt : i < (l.length : Int)
 ·rw [if_pos hlt, if_pos h0, and255]
  refine ⟨_, _, _, rfl, ?_, by omega, by omega⟩
  rw [wrap_inc h0 hlt (by omega)]
  omega
 ·rw [if_neg hlt, and255]
  exact ⟨_, _, _, rfl, h0, by omega, by omega⟩
theorem below_ok (l : List Int) (i h n : Int) (hl : l.length ≤ 140737488351232) (h0 : 0 ≤ i) : ∃ v i' h', spec_l1Below.f l i h n = some (v, i', h') ∧ 0 ≤ i' ∧ 0 ≤ v ∧ (0 < n → v < n) := by
 unfold spec_l1Below.f
 by_cases h1 : n ≤ 0
 ·rw [if_pos h1]
  exact ⟨_, _, _, rfl, h0, by omega, by omega⟩
 ·rw [if_neg h1]
  by_cases h2 : n ≤ 256
  ·rw [if_pos h2]
   obtain ⟨v, i1, h', e, g0, g1, g2⟩ := byte_ok l i h hl h0
   rw [e]
   simp only [Option.bind_some]
   rw [if_neg (by omega)]
   refine ⟨_, _, _, rfl, g0, Int.tmod_nonneg n g1, fun _ => Int.tmod_lt_of_pos v (by omega)⟩
  ·rw [if_neg h2]
   obtain ⟨v1, i1, k1, e1, g1, p1, q1⟩ := byte_ok l i h hl h0
   rw [e1]
   simp only [Option.bind_some]
   obtain ⟨v2, i2, k2, e2, g2, p2, q2⟩ := byte_ok l i1 k1 hl g1
   rw [e2]
   simp only [Option.bind_some]
   obtain ⟨v3, i3, k3, e3, g3, p3, q3⟩ := byte_ok l i2 k2 hl g2
   rw [e3]
   simp only [Option.bind_some]
   obtain ⟨v4, i4, k4, e4, g4, p4, q4⟩ := byte_ok l i3 k3 hl g3
   rw [e4]
   simp only [Option.bind_some]
   rw [if_neg (by omega)]
   refine ⟨_, _, _, rfl, g4, Int.tmod_nonneg n ?_, fun _ => Int.tmod_lt_of_pos _ (by omega)⟩
   rw [wrap_in (i := v1 * 16777216) (by omega) (by omega), wrap_in (i := v2 * 65536) (by omega) (by omega), wrap_in (i := v3 * 256) (by omega) (by omega), wrap_in (i := v1 * 16777216 + v2 * 65536) (by omega) (by omega), wrap_in (i := v1 * 16777216 + v2 * 65536 + v3 * 256) (by omega) (by omega), wrap_in (by omega) (by omega)]
   omega
theorem new_ok (l : List Int) (hl : l.length ≤ 140737488351232) : ∃ h, Ev (fun k => spec_l1New.f k l) (l, 0, h) := by
 have key : ∀ (d : Nat) (x i : Int), 0 ≤ i → (l.length : Int) - i ≤ d → ∃ h, Ev (fun k => spec_l1New.l0 k l x i) (l, 0, h) := by
  intro d
  induction d with
  | zero =>
   intro x i h0 hd
   exact ⟨x, Ev.step (fun k => spec_l1New.l0.eq_2 l x i k) (neg (by omega) (Ev.now _))⟩
  | succ d ih =>
   intro x i h0 hd
   by_cases hlt : i < (l.length : Int)
   ·by_cases h4 : i < 4000
    ·obtain ⟨h, hh⟩ := ih (Go.bits .and .i64 (wrap64 ((wrap64 ((wrap64 (x * 131)) + (wrap64 (rd l i)))) + 7)) 1073741823) (i + 1) (by omega) (by omega)
     rw [← wrap_inc h0 hlt (by omega)] at hh
     exact ⟨h, Ev.step (fun k => spec_l1New.l0.eq_2 l x i k) (pos hlt (pos h4 (pos h0 hh)))⟩
    ·exact ⟨x, Ev.step (fun k => spec_l1New.l0.eq_2 l x i k) (pos hlt (neg h4 (Ev.now _)))⟩
   ·exact ⟨x, Ev.step (fun k => spec_l1New.l0.eq_2 l x i k) (neg hlt (Ev.now _))⟩
 exact key l.length _ 0 (by omega) (by omega)
theorem once_ok (l : List Int) (i h n : Int) (hl : l.length ≤ 140737488351232) (h0 : 0 ≤ i) : ∃ v i' h', spec_l1Once.f l i h n = some (v, i', h') ∧ 0 ≤ i' := by
 unfold spec_l1Once.f
 obtain ⟨v, i1, h1, e, g0, _⟩ := below_ok l i h n hl h0
 rw [e]
 exact ⟨_, _, _, rfl, g0⟩
theorem pickint_ok (l : List Int) (i h : Int) (xs : List Int) (hx : 0 < xs.length) (hl : l.length ≤ 140737488351232) (h0 : 0 ≤ i) : ∃ v i' h', spec_l1PickInt.f l i h xs = some (v, i', h') ∧ 0 ≤ i' ∧ v ∈ xs := by
 unfold spec_l1PickInt.f
 obtain ⟨v, i1, h1, e, g0, g1, g2⟩ := below_ok l i h xs.length hl h0
 rw [e]
 simp only [Option.bind_some]
 rw [if_pos g1, if_pos (g2 (by omega))]
 exact ⟨_, _, _, rfl, g0, getD_mem xs 0 _ (by have := g2 (by omega); omega)⟩
theorem odd_ok (l : List Int) (i h : Int) (hl : l.length ≤ 140737488351232) (h0 : 0 ≤ i) : ∃ v i' h', spec_l1Odd.f l i h = some (v, i', h') ∧ 0 ≤ i' ∧ -9223372036854775808 ≤ v ∧ v ≤ 9223372036854775807 := by
 unfold spec_l1Odd.f
 obtain ⟨v, i1, h1, e, g0, g1⟩ := pickint_ok l i h [0, 1, (-1), 2, 1000000, 1000001, (-1000001), 1000000000, 1000000001, 9223372036854775807, (-9223372036854775808)] (by simp) hl h0
 rw [e]
 refine ⟨_, _, _, rfl, g0, ?_⟩
 simp only [List.mem_cons, List.not_mem_nil, or_false] at g1
 omega

/-- Documents of a size that the laws speak of. -/
def SmD (l : List S66) : Prop := l.length ≤ 1073741824 ∧ ∀ d ∈ l, d.f2.length ≤ 1073741824 ∧ ∀ x ∈ d.f2, x.f0.size ≤ 140737488351232
theorem SmD.good {l : List S66} (h : SmD l) : GoodD l := ⟨by have := h.1; omega, fun d hd => ⟨by have := (h.2 d hd).1; omega, (h.2 d hd).2⟩⟩
def SmE (l : List S51) : Prop := l.length ≤ 1073741824 ∧ ∀ x ∈ l, x.f0.size ≤ 140737488351232
theorem copy_s (l : List S66) (h : SmD l) : Ev (fun k => spec_l35Copy.f k l) l := by
 have hl := h.1
 have key : ∀ (d : Nat) (acc : List S66) (i : Int), 0 ≤ i → (l.length : Int) - i = d → acc.length + d ≤ 1073741824 → Ev (fun k => spec_l35Copy.l0 k l acc i) (acc ++ l.drop i.toNat) := by
  intro d
  induction d with
  | zero =>
   intro acc i h0 hd ha
   refine Ev.step (fun k => spec_l35Copy.l0.eq_2 l acc i k) (neg (by omega) (cong (Ev.now _) ?_))
   rw [List.drop_of_length_le (by omega)]
   simp
  | succ d ih =>
   intro acc i h0 hd ha
   have hlt : i < (l.length : Int) := by omega
   have hm : rd_T66 l i ∈ l := getD_mem l _ _ (by omega)
   have hb := (h.2 _ hm).1
   have h := ih (acc ++ [⟨(rd_T66 l i).f0, (rd_T66 l i).f1, [] ++ (rd_T66 l i).f2⟩]) (i + 1) (by omega) (by omega) (by simp; omega)
   rw [← wrap_inc h0 hlt (by omega)] at h
   refine Ev.step (fun k => spec_l35Copy.l0.eq_2 l acc i k) (pos hlt (pos h0 (known rfl (pos (by simp; omega) (pos (by omega) (cong h ?_))))))
   rw [wrap_inc h0 hlt (by omega), show (i + 1).toNat = i.toNat + 1 by omega, drop_at l z66 i.toNat (by omega)]
   simp [rd_T66]
 have := key l.length [] 0 (by omega) (by omega) (by simp; exact h.1)
 exact cong this (by simp)
noncomputable def postR (l : List S66) (day : Int) (es : List S51) : List S66 × Bool :=
 if docsB (l ++ [⟨(l.length : Int) + 1, day, es⟩]) = true then (l ++ [⟨(l.length : Int) + 1, day, es⟩], true) else ([], false)
theorem post_good {l : List S66} (h : SmD l) {es : List S51} (he : SmE es) (n day : Int) : GoodD (l ++ [⟨n, day, es⟩]) := by
 refine ⟨by have := h.1; simp; omega, fun d hd => ?_⟩
 rcases List.mem_append.1 hd with hd | hd
 ·exact h.good.2 d hd
 ·obtain rfl := List.mem_singleton.1 hd
  exact ⟨by have := he.1; simp only; omega, he.2⟩
theorem post_s (l : List S66) (h : SmD l) (day : Int) (es : List S51) (he : SmE es) : Ev (fun k => spec_PostEntries.f k l day es) (postR l day es) := by
 have hl := h.1
 have hel := he.1
 refine Ev.bind (copy_s l h) (known rfl (pos (by simp; omega) (pos (by omega) (known rfl ?_))))
 have hw : wrap64 ((l.length : Int) + 1) = (l.length : Int) + 1 := wrap_in (by omega) (by omega)
 rw [hw, List.nil_append]
 refine Ev.bind (docs_s _ (post_good h he _ _)) ?_
 unfold postR
 exact ite_ (fun h => cong (Ev.now _) (by rw [if_pos h])) (fun h => cong (Ev.now _) (by rw [if_neg h]))
theorem copy_i (l : List S66) (h : SmD l) : Ev (fun k => impl_copyDocuments.f k l) l := by
 have hl := h.1
 have key : ∀ (d : Nat) (acc : List S66) (i : Int), 0 ≤ i → (l.length : Int) - i = d → acc.length + d ≤ 1073741824 → Ev (fun k => impl_copyDocuments.l0 k acc l l.length i) (acc ++ l.drop i.toNat) := by
  intro d
  induction d with
  | zero =>
   intro acc i h0 hd ha
   refine Ev.step (fun k => impl_copyDocuments.l0.eq_2 acc l l.length i k) (neg (by omega) (cong (Ev.now _) ?_))
   rw [List.drop_of_length_le (by omega)]
   simp
  | succ d ih =>
   intro acc i h0 hd ha
   have hlt : i < (l.length : Int) := by omega
   have hm : rd_T66 l i ∈ l := getD_mem l _ _ (by omega)
   have hb := (h.2 _ hm).1
   have h := ih (acc ++ [⟨(rd_T66 l i).f0, (rd_T66 l i).f1, [] ++ (rd_T66 l i).f2⟩]) (i + 1) (by omega) (by omega) (by simp; omega)
   rw [← wrap_inc h0 hlt (by omega)] at h
   refine Ev.step (fun k => impl_copyDocuments.l0.eq_2 acc l l.length i k) (pos hlt (pos h0 (pos hlt (known rfl (pos (by simp; omega) (pos (by omega) (cong h ?_)))))))
   rw [wrap_inc h0 hlt (by omega), show (i + 1).toNat = i.toNat + 1 by omega, drop_at l z66 i.toNat (by omega)]
   simp [rd_T66]
 have := key l.length [] 0 (by omega) (by omega) (by simp; exact h.1)
 exact cong this (by simp)
theorem post_i (l : List S66) (h : SmD l) (day : Int) (es : List S51) (he : SmE es) : Ev (fun k => impl_PostEntries.f k l day es) (postR l day es) := by
 have hl := h.1
 have hel := he.1
 refine Ev.bind (copy_i l h) (known rfl (pos (by simp; omega) (pos (by omega) (known rfl ?_))))
 have hw : wrap64 ((l.length : Int) + 1) = (l.length : Int) + 1 := wrap_in (by omega) (by omega)
 rw [hw, List.nil_append]
 refine Ev.bind (docs_i _ (post_good h he _ _)) ?_
 unfold postR
 exact ite_ (fun h => cong (Ev.now _) (by rw [if_pos h])) (fun h => cong (Ev.now _) (by rw [if_neg h]))
def ngE (x : S51) : S51 := ⟨x.f0, wrap64 (-x.f1)⟩
theorem ng_sm {l : List S51} (h : SmE l) : SmE (l.map ngE) := ⟨by simpa using h.1, fun x hx => by
 obtain ⟨y, hy, rfl⟩ := List.mem_map.1 hx
 exact h.2 y hy⟩
noncomputable def revR (l : List S66) (n day : Int) : List S66 × Bool := postR l day ((rd_T66 l (n - 1)).f2.map ngE)
theorem neg_i (l : List S51) (h : SmE l) : Ev (fun k => impl_NegateEntries.f k l) (l.map ngE) := by
 have hl := h.1
 have key : ∀ (d : Nat) (acc : List S51) (i : Int), 0 ≤ i → (l.length : Int) - i = d → acc.length + d ≤ 1073741824 → Ev (fun k => impl_NegateEntries.l0 k acc l l.length i) (acc ++ (l.drop i.toNat).map ngE) := by
  intro d
  induction d with
  | zero =>
   intro acc i h0 hd ha
   refine Ev.step (fun k => impl_NegateEntries.l0.eq_2 acc l l.length i k) (neg (by omega) (cong (Ev.now _) ?_))
   rw [List.drop_of_length_le (by omega)]
   simp
  | succ d ih =>
   intro acc i h0 hd ha
   have hlt : i < (l.length : Int) := by omega
   have h := ih (acc ++ [ngE (rd_T51 l i)]) (i + 1) (by omega) (by omega) (by simp; omega)
   rw [← wrap_inc h0 hlt (by omega)] at h
   refine Ev.step (fun k => impl_NegateEntries.l0.eq_2 acc l l.length i k) (pos hlt (pos h0 (pos hlt (pos (by omega) (cong h ?_)))))
   rw [wrap_inc h0 hlt (by omega), show (i + 1).toNat = i.toNat + 1 by omega, drop_at l z51 i.toNat (by omega)]
   simp [rd_T51]
 have := key l.length [] 0 (by omega) (by omega) (by simp; omega)
 exact cong this (by simp)
theorem rev_i (l : List S66) (h : SmD l) (hd : docsB l = true) (n day : Int) (h1 : 1 ≤ n) (h2 : n ≤ l.length) : Ev (fun k => impl_ReverseNumber.f k l n day) (revR l n day) := by
 have hl := h.1
 have hw : wrap64 (n - 1) = n - 1 := wrap_in (by omega) (by omega)
 have hm : rd_T66 l (n - 1) ∈ l := getD_mem l _ _ (by omega)
 have he : SmE (rd_T66 l (n - 1)).f2 := h.2 _ hm
 refine Ev.bind (docs_i l h.good) (pos hd (known (in_i _ _ _) (Ev.step (fun k => impl_ReverseNumber.j0.eq_2 l n day _ k) (neg ?_ ?_))))
 ·simp [inB]
  omega
 ·rw [hw]
  exact pos (by omega) (pos (by omega) (Ev.bind (neg_i _ he) (Ev.bind (post_i l h day _ (ng_sm he)) (Ev.now _))))
def eqtB (x : S51) : Bool := x.f0.toList == ([69, 81, 85, 73, 84, 89] : List UInt8)
noncomputable def reopR (l : List S66) : List S66 × Bool :=
 if docsB l = true ∧ 1 ≤ l.length ∧ (rd_T66 l ((l.length : Int) - 1)).f2.any eqtB = true then revR l l.length (rd_T66 l ((l.length : Int) - 1)).f1 else ([], false)
theorem reop_i (l : List S66) (h : SmD l) : Ev (fun k => impl_ReopenPeriod.f k l) (reopR l) := by
 have hl := h.1
 unfold reopR
 refine Ev.bind (docs_i l h.good) (ite_ (fun hd => Ev.step (fun k => impl_ReopenPeriod.j0.eq_2 l _ _ k) (ite_ (fun hz => ?_) (fun hz => ?_))) (fun hd => Ev.step (fun k => impl_ReopenPeriod.j0.eq_2 l _ _ k) (pos rfl (cong (Ev.now _) ?_))))
 ·have hz' : l.length = 0 := by simpa using hz
  exact cong (Ev.now _) (by rw [if_neg (by omega)])
 ·have hz' : l.length ≠ 0 := by simpa using hz
  have hw : wrap64 ((l.length : Int) - 1) = (l.length : Int) - 1 := wrap_in (by omega) (by omega)
  have hm : rd_T66 l ((l.length : Int) - 1) ∈ l := getD_mem l _ _ (by omega)
  have he : SmE (rd_T66 l ((l.length : Int) - 1)).f2 := h.2 _ hm
  rw [hw]
  refine pos (by omega) (pos (by omega) ?_)
  obtain ⟨es, hes⟩ : ∃ es, es = (rd_T66 l ((l.length : Int) - 1)).f2 := ⟨_, rfl⟩
  rw [← hes] at he ⊢
  have hel := he.1
  have key : ∀ (d : Nat) (i : Int), 0 ≤ i → (es.length : Int) - i = d → (es.drop i.toNat).any eqtB = es.any eqtB → Ev (fun k => impl_ReopenPeriod.l0 k l l.length es es.length i) (if docsB l = true ∧ 1 ≤ l.length ∧ es.any eqtB = true then revR l l.length (rd_T66 l ((l.length : Int) - 1)).f1 else ([], false)) := by
   intro d
   induction d with
   | zero =>
    intro i h0 hdd hq
    rw [List.drop_of_length_le (by omega), List.any_nil] at hq
    exact Ev.step (fun k => impl_ReopenPeriod.l0.eq_2 l l.length es es.length i k) (neg (by omega) (cong (Ev.now _) (by rw [← hq, if_neg (fun hh => by simp at hh)])))
   | succ d ih =>
    intro i h0 hdd hq
    have hlt : i < (es.length : Int) := by omega
    rw [drop_at es z51 i.toNat (by omega), List.any_cons] at hq
    refine Ev.step (fun k => impl_ReopenPeriod.l0.eq_2 l l.length es es.length i k) (pos hlt (pos h0 (pos hlt (ite_ (fun hf => ?_) (fun hf => ?_)))))
    ·have hany : es.any eqtB = true := by
      rw [← hq]
      have : eqtB (es.getD i.toNat z51) = true := beq_iff_eq.2 hf
      rw [this, Bool.true_or]
     rw [hw]
     exact pos (by omega) (pos (by omega) (Ev.bind (rev_i l h hd _ _ (by omega) (by omega)) (cong (Ev.now _) (by rw [if_pos ⟨hd, by omega, hany⟩]))))
    ·have hne : eqtB (es.getD i.toNat z51) = false := by
      have : ¬ eqtB (rd_T51 es i) = true := fun hh => hf (beq_iff_eq.1 hh)
      simpa [rd_T51] using this
     have h := ih (i + 1) (by omega) (by omega) (by rw [← hq, hne, show (i + 1).toNat = i.toNat + 1 by omega]; simp)
     rw [← wrap_inc h0 hlt (by omega)] at h
     exact h
  exact key es.length 0 (by omega) (by omega) (by simp)
 ·rw [if_neg (fun hh => hd hh.1)]

theorem profit_eq (a b : Int) : wrap64 (wrap64 (-a) - b) = wrap64 (-(wrap64 (a + b))) := by
 unfold wrap64
 omega
theorem balE_rng (a : ByteArray) : ∀ (l : List S51) (s : Int), -9223372036854775808 ≤ s ∧ s ≤ 9223372036854775807 → -9223372036854775808 ≤ balE a s l ∧ balE a s l ≤ 9223372036854775807
 | [], s, h => h
 | x :: r, s, h => balE_rng a r _ (by dsimp only; split; (unfold wrap64; omega); exact h)
theorem balD_rng (a : ByteArray) (day : Int) : ∀ (l : List S66) (s : Int), -9223372036854775808 ≤ s ∧ s ≤ 9223372036854775807 → -9223372036854775808 ≤ balD a day s l ∧ balD a day s l ≤ 9223372036854775807
 | [], s, h => h
 | x :: r, s, h => balD_rng a day r _ (by dsimp only; split; (exact balE_rng a _ _ h); exact h)
theorem balR_rng (l : List S66) (a : ByteArray) (day : Int) : -9223372036854775808 ≤ balR l a day ∧ balR l a day ≤ 9223372036854775807 := by
 unfold balR
 split
 ·exact balD_rng a day l 0 (by omega)
 ·omega
theorem neg_zero {t : Int} (h : -9223372036854775808 ≤ t ∧ t ≤ 9223372036854775807) : wrap64 (-t) = 0 ↔ t = 0 := by
 unfold wrap64
 omega
theorem addE_neg (es : List S51) (a : ByteArray) {t : Int} (h : -9223372036854775808 ≤ t ∧ t ≤ 9223372036854775807) : addE es a (wrap64 (-t)) = if t = 0 then es else es ++ [⟨a, wrap64 (-t)⟩] := by
 unfold addE
 by_cases ht : t = 0
 ·rw [if_pos ht, if_pos ((neg_zero h).2 ht)]
 ·rw [if_neg ht, if_neg (fun hh => ht ((neg_zero h).1 hh))]
theorem addE_len (es : List S51) (a : ByteArray) (n : Int) : (addE es a n).length ≤ es.length + 1 := by
 unfold addE
 split <;> simp
theorem addE_sm {es : List S51} (h : SmE es) (hl : es.length ≤ 1000) {a : ByteArray} (ha : a.size ≤ 140737488351232) (n : Int) : SmE (addE es a n) := by
 refine ⟨by have := addE_len es a n; omega, fun x hx => ?_⟩
 unfold addE at hx
 split at hx
 ·exact h.2 x hx
 ·rcases List.mem_append.1 hx with hx | hx
  ·exact h.2 x hx
  ·obtain rfl := List.mem_singleton.1 hx
   exact ha
noncomputable def profR (l : List S66) (day : Int) : Int := wrap64 (-(wrap64 (balR l sSales day + balR l sCost day)))
theorem profR_rng (l : List S66) (day : Int) : -9223372036854775808 ≤ profR l day ∧ profR l day ≤ 9223372036854775807 := by
 unfold profR wrap64
 omega
noncomputable def closeE (l : List S66) (day : Int) : List S51 := addE (addE [] sSales (wrap64 (-balR l sSales day))) sCost (wrap64 (-balR l sCost day))
noncomputable def closeR (l : List S66) (day : Int) : List S66 × Bool :=
 if docsB l = true ∧ inB day 0 999 = true then (if (closeE l day).length = 0 then (l, true) else postR l day (addE (closeE l day) sEquity (wrap64 (-profR l day)))) else ([], false)
theorem sE_nil : SmE [] := ⟨by simp, by simp⟩
theorem closeE_sm (l : List S66) (day : Int) : SmE (closeE l day) ∧ (closeE l day).length ≤ 2 := by
 unfold closeE
 have h1 := addE_len [] sSales (wrap64 (-balR l sSales day))
 have h2 := addE_len (addE [] sSales (wrap64 (-balR l sSales day))) sCost (wrap64 (-balR l sCost day))
 simp only [List.length_nil] at h1
 exact ⟨addE_sm (addE_sm sE_nil (by simp) (by decide) _) (by omega) (by decide) _, by omega⟩
theorem prof_s (l : List S66) (h : SmD l) (day : Int) : Ev (fun k => spec_ProfitOn.f k l day) (profR l day) :=
 Ev.bind (bal_s l h.good sSales day) (Ev.bind (bal_s l h.good sCost day) (cong (Ev.now _) (profit_eq _ _)))
theorem close_s (l : List S66) (h : SmD l) (day : Int) : Ev (fun k => spec_ClosePeriod.f k l day) (closeR l day) := by
 have hst : ∀ (es : List S51) (i : Int) (a : ByteArray) (r : List S66 × Bool), es.length ≤ 10 → 0 ≤ i → i < 2 → rdOf ByteArray.empty [sSales, sCost] i = a →
   Ev (fun k => spec_ClosePeriod.l0 k l day (addE es a (wrap64 (-balR l a day))) [sSales, sCost] (i + 1)) r → Ev (fun k => spec_ClosePeriod.l0 k l day es [sSales, sCost] i) r := by
  intro es i a r hes h0 hi ha hr
  rw [addE_neg es a (balR_rng l a day)] at hr
  refine Ev.step (fun k => spec_ClosePeriod.l0.eq_2 l day es [sSales, sCost] i k) (pos hi (pos h0 (pos (by simpa using hi) ?_)))
  rw [ha, wrap_in (by omega) (by omega)]
  refine Ev.bind (bal_s l h.good a day) (ite_ (fun hz => ?_) (fun hz => pos (by omega) ?_))
  ·rw [if_pos hz] at hr
   exact hr
  ·rw [if_neg hz] at hr
   exact hr
 have hfin : docsB l = true → inB day 0 999 = true → Ev (fun k => spec_ClosePeriod.l0 k l day (closeE l day) [sSales, sCost] 2) (closeR l day) := by
  intro hd hi
  obtain ⟨hs, hl⟩ := closeE_sm l day
  unfold closeR
  rw [if_pos ⟨hd, hi⟩]
  refine Ev.step (fun k => spec_ClosePeriod.l0.eq_2 l day (closeE l day) [sSales, sCost] 2 k) (neg (by omega) (ite_ (fun hz => ?_) (fun hz => ?_)))
  ·rw [if_pos (by omega)]
   exact Ev.bind (copy_s l h) (Ev.now _)
  ·rw [if_neg (by omega), addE_neg _ _ (profR_rng l day)]
   refine Ev.bind (prof_s l h day) (ite_ (fun hp => ?_) (fun hp => Ev.bind (prof_s l h day) (pos (by omega) ?_)))
   ·rw [if_pos hp]
    exact Ev.bind (post_s l h day _ hs) (Ev.now _)
   ·rw [if_neg hp]
    have e := addE_sm hs (by omega) (a := sEquity) (by decide) (wrap64 (-profR l day))
    rw [addE_neg _ _ (profR_rng l day), if_neg hp] at e
    exact Ev.bind (post_s l h day _ e) (Ev.now _)
 refine Ev.bind (docs_s l h.good) (ite_ (fun hd => known (in_s _ _ _) (Ev.step (fun k => spec_ClosePeriod.j0.eq_2 l day _ k) (ite_ (fun hi => ?_) (fun hi => ?_)))) (fun hd => Ev.step (fun k => spec_ClosePeriod.j0.eq_2 l day _ k) (pos rfl (cong (Ev.now _) ?_))))
 ·refine cong (Ev.now _) ?_
  unfold closeR
  rw [if_neg (fun hh => by rw [hh.2] at hi; simp at hi)]
 ·have hi' : inB day 0 999 = true := by simpa using hi
  refine hst [] 0 sSales _ (by simp) (by omega) (by omega) rfl (hst _ 1 sCost _ (by have := addE_len [] sSales (wrap64 (-balR l sSales day)); simp at this; omega) (by omega) (by omega) rfl ?_)
  exact hfin hd hi'
 ·unfold closeR
  rw [if_neg (fun hh => hd hh.1)]
theorem prof_i (l : List S66) (h : SmD l) (day : Int) : Ev (fun k => impl_ProfitOn.f k l day) (profR l day) :=
 Ev.bind (bal_i l h.good sSales day) (Ev.bind (bal_i l h.good sCost day) (Ev.now _))
theorem close_i (l : List S66) (h : SmD l) (day : Int) : Ev (fun k => impl_ClosePeriod.f k l day) (closeR l day) := by
 obtain ⟨hs, hl⟩ := closeE_sm l day
 unfold closeR
 refine Ev.bind (docs_i l h.good) (ite_ (fun hd => known (in_i _ _ _) (ite_ (fun hi => Ev.bind (bal_i l h.good sSales day) (Ev.bind (bal_i l h.good sCost day) ?_)) (fun hi => cong (Ev.now _) ?_))) (fun hd => cong (Ev.now _) ?_))
 ·rw [if_pos ⟨hd, hi⟩]
  refine ite_ (fun hz => ?_) (fun hz => ?_)
  ·rw [if_pos (show (closeE l day).length = 0 from hz)]
   exact Ev.bind (copy_i l h) (Ev.now _)
  ·rw [if_neg (show ¬ (closeE l day).length = 0 from hz)]
   exact Ev.bind (prof_i l h day) (Ev.bind (post_i l h day _ (addE_sm hs (by omega) (by decide) _)) (Ev.now _))
 ·rw [if_neg (fun hh => hi hh.2)]
 ·rw [if_neg (fun hh => hd hh.1)]

theorem day4_ok (l : List Int) (i h : Int) (hl : l.length ≤ 140737488351232) (h0 : 0 ≤ i) : ∃ v i' h', spec_l4Day.f l i h = some (v, i', h') ∧ 0 ≤ i' := by
 unfold spec_l4Day.f
 obtain ⟨b, i1, h1, e1, g1⟩ := once_ok l i h 12 hl h0
 rw [e1]
 simp only [Option.bind_some]
 by_cases hb : b = true
 ·obtain ⟨v, i2, h2, e2, g2, -⟩ := pickint_ok l i1 h1 [(-1), 999, 1000, 998, (-9223372036854775808), 9223372036854775807] (by simp) hl g1
  rw [if_pos hb, e2]
  exact ⟨_, _, _, rfl, g2⟩
 ·obtain ⟨v, i2, h2, e2, g2, -⟩ := below_ok l i1 h1 40 hl g1
  rw [if_neg hb, e2]
  exact ⟨_, _, _, rfl, g2⟩
theorem pick_ok (l : List Int) (i h : Int) (xs : List ByteArray) (hx : 0 < xs.length) (hl : l.length ≤ 140737488351232) (h0 : 0 ≤ i) : ∃ v i' h', spec_l1Pick.f l i h xs = some (v, i', h') ∧ 0 ≤ i' ∧ v ∈ xs := by
 unfold spec_l1Pick.f
 obtain ⟨v, i1, h1, e, g0, g1, g2⟩ := below_ok l i h xs.length hl h0
 rw [e]
 simp only [Option.bind_some]
 rw [if_pos g1, if_pos (g2 (by omega))]
 exact ⟨_, _, _, rfl, g0, getD_mem xs _ _ (by have := g2 (by omega); omega)⟩
theorem account_ok (l : List Int) (i h : Int) (hl : l.length ≤ 140737488351232) (h0 : 0 ≤ i) : ∃ v i' h', spec_l35Account.f l i h = some (v, i', h') ∧ 0 ≤ i' ∧ v.size ≤ 6 := by
 unfold spec_l35Account.f
 obtain ⟨v, i1, h1, e1, g1, g2⟩ := pick_ok l i h [⟨#[67, 65, 83, 72]⟩, ⟨#[83, 84, 79, 67, 75]⟩, ⟨#[83, 65, 76, 69, 83]⟩, ⟨#[67, 79, 83, 84]⟩, ⟨#[87, 79, 82, 75]⟩, ⟨#[83, 85, 80, 80, 76, 89]⟩] (by simp) hl h0
 rw [e1]
 refine ⟨_, _, _, rfl, g1, ?_⟩
 have hall : ∀ a ∈ ([⟨#[67, 65, 83, 72]⟩, ⟨#[83, 84, 79, 67, 75]⟩, ⟨#[83, 65, 76, 69, 83]⟩, ⟨#[67, 79, 83, 84]⟩, ⟨#[87, 79, 82, 75]⟩, ⟨#[83, 85, 80, 80, 76, 89]⟩] : List ByteArray), a.size ≤ 6 := by
  intro a ha
  simp only [List.mem_cons, List.not_mem_nil, or_false] at ha
  rcases ha with rfl | rfl | rfl | rfl | rfl | rfl <;> decide
 exact hall v g2
theorem entries_ok (l : List Int) (i h : Int) (hl : l.length ≤ 140737488351232) (h0 : 0 ≤ i) : ∃ es i' h', Ev (fun k => spec_l35Entries.f k l i h) (es, i', h') ∧ 0 ≤ i' ∧ 1 ≤ es.length ∧ es.length ≤ 10 ∧ ∀ x ∈ es, x.f0.size ≤ 6 := by
 have hj2 : ∀ (es : List S51) (i h : Int), 0 ≤ i → 1 ≤ es.length → es.length ≤ 10 → (∀ x ∈ es, x.f0.size ≤ 6) → ∃ es' i' h', Ev (fun k => spec_l35Entries.j2 k es l i h) (es', i', h') ∧ 0 ≤ i' ∧ 1 ≤ es'.length ∧ es'.length ≤ 10 ∧ ∀ x ∈ es', x.f0.size ≤ 6 := by
  intro es i h h0 h1 h2 h3
  obtain ⟨b, i1, h1', e1, g1⟩ := once_ok l i h 24 hl h0
  by_cases hb : b = true
  ·obtain ⟨v, i2, h2', e2, g2, -⟩ := odd_ok l i1 h1' hl g1
   refine ⟨es.set 0 ⟨(rd_T51 es 0).f0, v⟩, i2, h2', Ev.step (fun k => spec_l35Entries.j2.eq_2 es l i h k) (known e1 (pos hb (known e2 (pos (by omega) (Ev.now _))))), g2, by simpa using h1, by simpa using h2, fun x hx => ?_⟩
   rcases List.mem_or_eq_of_mem_set hx with hx | rfl
   ·exact h3 x hx
   ·exact h3 (rd_T51 es 0) (getD_mem es _ _ (by omega))
  ·exact ⟨es, i1, h1', Ev.step (fun k => spec_l35Entries.j2.eq_2 es l i h k) (known e1 (neg hb (Ev.now _))), g1, h1, h2, h3⟩
 have hj1 : ∀ (es : List S51) (s : Int) (b : Bool) (i h : Int), 0 ≤ i → 1 ≤ es.length → es.length ≤ 9 → (∀ x ∈ es, x.f0.size ≤ 6) → ∃ es' i' h', Ev (fun k => spec_l35Entries.j1 k es s b l i h) (es', i', h') ∧ 0 ≤ i' ∧ 1 ≤ es'.length ∧ es'.length ≤ 10 ∧ ∀ x ∈ es', x.f0.size ≤ 6 := by
  intro es s b i h h0 h1 h2 h3
  by_cases hb : b = true
  ·obtain ⟨v, i1, h1', e1, g1, g2⟩ := account_ok l i h hl h0
   obtain ⟨es', i', h', e, r⟩ := hj2 (es ++ [⟨v, wrap64 (-s)⟩]) i1 h1' g1 (by simp) (by simp; omega) (fun x hx => by
    rcases List.mem_append.1 hx with hx | hx
    ·exact h3 x hx
    ·obtain rfl := List.mem_singleton.1 hx
     exact g2)
   exact ⟨es', i', h', Ev.step (fun k => spec_l35Entries.j1.eq_2 es s b l i h k) (pos hb (known e1 (pos (by omega) e))), r⟩
  ·obtain ⟨es', i', h', e, r⟩ := hj2 es i h h0 h1 (by omega) h3
   exact ⟨es', i', h', Ev.step (fun k => spec_l35Entries.j1.eq_2 es s b l i h k) (neg hb e), r⟩
 have hl0 : ∀ (d : Nat) (es : List S51) (s n i h : Int), 0 ≤ i → n ≤ d → d ≤ 5 → es.length + d ≤ 9 → (1 ≤ es.length ∨ 1 ≤ n) → (∀ x ∈ es, x.f0.size ≤ 6) → ∃ es' i' h', Ev (fun k => spec_l35Entries.l0 k es s n l i h) (es', i', h') ∧ 0 ≤ i' ∧ 1 ≤ es'.length ∧ es'.length ≤ 10 ∧ ∀ x ∈ es', x.f0.size ≤ 6 := by
  intro d
  induction d with
  | zero =>
   intro es s n i h h0 hn hd hle h1 h3
   by_cases hs : s = 0
   ·obtain ⟨es', i', h', e, r⟩ := hj1 es s false i h h0 (by omega) (by omega) h3
    exact ⟨es', i', h', Ev.step (fun k => spec_l35Entries.l0.eq_2 es s n l i h k) (neg (by omega) (pos hs e)), r⟩
   ·obtain ⟨b, i1, h1', e1, g1⟩ := once_ok l i h 20 hl h0
    obtain ⟨es', i', h', e, r⟩ := hj1 es s (!b) i1 h1' g1 (by omega) (by omega) h3
    exact ⟨es', i', h', Ev.step (fun k => spec_l35Entries.l0.eq_2 es s n l i h k) (neg (by omega) (neg hs (known e1 e))), r⟩
  | succ d ih =>
   intro es s n i h h0 hn hd hle h1 h3
   by_cases hp : n > 0
   ·obtain ⟨v, i1, h1', e1, g1, g2⟩ := account_ok l i h hl h0
    obtain ⟨a, i2, h2', e2, g3, -⟩ := below_ok l i1 h1' 199 hl g1
    have hw : wrap64 (n - 1) = n - 1 := wrap_in (by omega) (by omega)
    have hx : ∀ (m : Int), ∀ x ∈ es ++ [(⟨v, m⟩ : S51)], x.f0.size ≤ 6 := fun m x hx => by
     rcases List.mem_append.1 hx with hx | hx
     ·exact h3 x hx
     ·obtain rfl := List.mem_singleton.1 hx
      exact g2
    by_cases hz : wrap64 (a - 99) = 0
    ·obtain ⟨es', i', h', e, r⟩ := ih (es ++ [⟨v, 100⟩]) (wrap64 (s + 100)) (n - 1) i2 h2' g3 (by omega) (by omega) (by simp; omega) (by simp) (hx _)
     rw [← hw] at e
     exact ⟨es', i', h', Ev.step (fun k => spec_l35Entries.l0.eq_2 es s n l i h k) (pos hp (known e1 (known e2 (pos hz (pos (by omega) e))))), r⟩
    ·obtain ⟨es', i', h', e, r⟩ := ih (es ++ [⟨v, wrap64 (a - 99)⟩]) (wrap64 (s + wrap64 (a - 99))) (n - 1) i2 h2' g3 (by omega) (by omega) (by simp; omega) (by simp) (hx _)
     rw [← hw] at e
     exact ⟨es', i', h', Ev.step (fun k => spec_l35Entries.l0.eq_2 es s n l i h k) (pos hp (known e1 (known e2 (neg hz (pos (by omega) e))))), r⟩
   ·by_cases hs : s = 0
    ·obtain ⟨es', i', h', e, r⟩ := hj1 es s false i h h0 (by omega) (by omega) h3
     exact ⟨es', i', h', Ev.step (fun k => spec_l35Entries.l0.eq_2 es s n l i h k) (neg hp (pos hs e)), r⟩
    ·obtain ⟨b, i1, h1', e1, g1⟩ := once_ok l i h 20 hl h0
     obtain ⟨es', i', h', e, r⟩ := hj1 es s (!b) i1 h1' g1 (by omega) (by omega) h3
     exact ⟨es', i', h', Ev.step (fun k => spec_l35Entries.l0.eq_2 es s n l i h k) (neg hp (neg hs (known e1 e))), r⟩
 obtain ⟨v, i1, h1', e1, g1, g2, g3⟩ := below_ok l i h 3 hl h0
 have hv := g3 (by omega)
 have hw : wrap64 (1 + v) = 1 + v := wrap_in (by omega) (by omega)
 obtain ⟨es', i', h', e, r⟩ := hl0 3 [] 0 (1 + v) i1 h1' g1 (by omega) (by omega) (by simp) (.inr (by omega)) (by simp)
 rw [← hw] at e
 exact ⟨es', i', h', known e1 e, r⟩
/-- Small documents: what the draws give. -/
def TinyD (l : List S66) (n : Nat) : Prop := l.length ≤ n ∧ ∀ d ∈ l, 1 ≤ d.f2.length ∧ d.f2.length ≤ 12 ∧ ∀ x ∈ d.f2, x.f0.size ≤ 6
theorem TinyD.sm {l : List S66} {n : Nat} (h : TinyD l n) (hn : n ≤ 100) : SmD l := ⟨by have := h.1; omega, fun d hd => ⟨by have := (h.2 d hd).2.1; omega, fun x hx => by have := (h.2 d hd).2.2 x hx; omega⟩⟩
theorem post_tiny {l : List S66} {n : Nat} (h : TinyD l n) {es : List S51} (h1 : 1 ≤ es.length) (h2 : es.length ≤ 12) (h3 : ∀ x ∈ es, x.f0.size ≤ 6) (day : Int) (hp : (postR l day es).2 = true) : TinyD (postR l day es).1 (n + 1) := by
 unfold postR at hp ⊢
 split at hp
 ·rename_i hd
  rw [if_pos hd]
  refine ⟨by have := h.1; simp; omega, fun d hd => ?_⟩
  rcases List.mem_append.1 hd with hd | hd
  ·exact h.2 d hd
  ·obtain rfl := List.mem_singleton.1 hd
   exact ⟨h1, h2, h3⟩
 ·simp at hp
theorem documents_ok (l : List Int) (i h : Int) (hl : l.length ≤ 140737488351232) (h0 : 0 ≤ i) : ∃ ds i' h', Ev (fun k => spec_l35Documents.f k l i h) (ds, i', h') ∧ 0 ≤ i' ∧ TinyD ds 6 := by
 have hj1 : ∀ (ds : List S66) (b : Bool) (i h : Int), 0 ≤ i → TinyD ds 6 → (b = true → 1 ≤ ds.length) → ∃ ds' i' h', Ev (fun k => spec_l35Documents.j1 k ds b l i h) (ds', i', h') ∧ 0 ≤ i' ∧ TinyD ds' 6 := by
  intro ds b i h h0 ht hb1
  by_cases hb : b = true
  ·have hd1 := hb1 hb
   have hd2 := ht.1
   obtain ⟨k1, i1, h1, e1, g1, g2, g3⟩ := below_ok l i h ds.length hl h0
   have hk := g3 (by omega)
   obtain ⟨m, i2, h2, e2, g4, -⟩ := below_ok l i1 h1 3 hl g1
   have hm : rd_T66 ds k1 ∈ ds := getD_mem ds _ _ (by omega)
   have hmm := ht.2 _ hm
   have hset : ∀ d' : S66, 1 ≤ d'.f2.length → d'.f2.length ≤ 12 → (∀ x ∈ d'.f2, x.f0.size ≤ 6) → TinyD (ds.set k1.toNat d') 6 := fun d' a1 a2 a3 => ⟨by simpa using hd2, fun d hd => by
    rcases List.mem_or_eq_of_mem_set hd with hd | rfl
    ·exact ht.2 d hd
    ·exact ⟨a1, a2, a3⟩⟩
   by_cases hm0 : m = 0
   ·exact ⟨_, i2, h2, Ev.step (fun k => spec_l35Documents.j1.eq_2 ds b l i h k) (pos hb (known e1 (known e2 (pos hm0 (pos g2 (pos hk (Ev.now _))))))), g4, hset _ hmm.1 hmm.2.1 hmm.2.2⟩
   ·by_cases hm1 : m = 1
    ·obtain ⟨v, i3, h3, e3, g5⟩ := day4_ok l i2 h2 hl g4
     exact ⟨_, i3, h3, Ev.step (fun k => spec_l35Documents.j1.eq_2 ds b l i h k) (pos hb (known e1 (known e2 (neg hm0 (pos hm1 (known e3 (pos g2 (pos hk (Ev.now _))))))))), g5, hset _ hmm.1 hmm.2.1 hmm.2.2⟩
    ·refine ⟨_, i2, h2, Ev.step (fun k => spec_l35Documents.j1.eq_2 ds b l i h k) (pos hb (known e1 (known e2 (neg hm0 (neg hm1 (pos g2 (pos hk (pos (Int.ofNat_lt.2 hmm.1) (Ev.now _))))))))), g4, hset _ (by simpa using hmm.1) (by simpa using hmm.2.1) (fun x hx => ?_)⟩
     rcases List.mem_or_eq_of_mem_set hx with hx | rfl
     ·exact hmm.2.2 x hx
     ·exact hmm.2.2 (rd_T51 (rd_T66 ds k1).f2 0) (getD_mem _ _ _ (by have := hmm.1; omega))
  ·exact ⟨ds, i, h, Ev.step (fun k => spec_l35Documents.j1.eq_2 ds b l i h k) (neg hb (Ev.now _)), h0, ht⟩
 have hl0 : ∀ (d : Nat) (ds : List S66) (n i h : Int), 0 ≤ i → n ≤ d → d ≤ 6 → TinyD ds (6 - d) → ∃ ds' i' h', Ev (fun k => spec_l35Documents.l0 k ds n l i h) (ds', i', h') ∧ 0 ≤ i' ∧ TinyD ds' 6 := by
  intro d
  induction d with
  | zero =>
   intro ds n i h h0 hn hd ht
   by_cases hp : (ds.length : Int) > 0
   ·obtain ⟨b, i1, h1, e1, g1⟩ := once_ok l i h 14 hl h0
    obtain ⟨ds', i', h', e, r⟩ := hj1 ds b i1 h1 g1 ht (fun _ => by omega)
    exact ⟨ds', i', h', Ev.step (fun k => spec_l35Documents.l0.eq_2 ds n l i h k) (neg (by omega) (pos hp (known e1 e))), r⟩
   ·obtain ⟨ds', i', h', e, r⟩ := hj1 ds false i h h0 ht (fun hh => by simp at hh)
    exact ⟨ds', i', h', Ev.step (fun k => spec_l35Documents.l0.eq_2 ds n l i h k) (neg (by omega) (neg hp e)), r⟩
  | succ d ih =>
   intro ds n i h h0 hn hd ht
   have ht6 : TinyD ds 6 := ⟨by have := ht.1; omega, ht.2⟩
   by_cases hp : n > 0
   ·obtain ⟨v, i1, h1, e1, g1, -⟩ := below_ok l i h 30 hl h0
    obtain ⟨es, i2, h2, e2, g2, q1, q2, q3⟩ := entries_ok l i1 h1 hl g1
    have hw : wrap64 (n - 1) = n - 1 := wrap_in (by omega) (by omega)
    have hpost := post_s ds (ht6.sm (by omega)) v es ⟨by omega, fun x hx => by have := q3 x hx; omega⟩
    by_cases hok : (postR ds v es).2 = true
    ·have hpt := post_tiny ht q1 (by omega) q3 v hok
     obtain ⟨ds', i', h', e, r⟩ := ih (postR ds v es).1 (n - 1) i2 h2 g2 (by omega) (by omega) ⟨by have := hpt.1; omega, hpt.2⟩
     rw [← hw] at e
     exact ⟨ds', i', h', Ev.step (fun k => spec_l35Documents.l0.eq_2 ds n l i h k) (pos hp (known e1 (Ev.bind e2 (Ev.bind hpost (pos hok e))))), r⟩
    ·obtain ⟨ds', i', h', e, r⟩ := ih ds (n - 1) i2 h2 g2 (by omega) (by omega) ⟨by have := ht.1; omega, ht.2⟩
     rw [← hw] at e
     exact ⟨ds', i', h', Ev.step (fun k => spec_l35Documents.l0.eq_2 ds n l i h k) (pos hp (known e1 (Ev.bind e2 (Ev.bind hpost (neg hok e))))), r⟩
   ·by_cases hp2 : (ds.length : Int) > 0
    ·obtain ⟨b, i1, h1, e1, g1⟩ := once_ok l i h 14 hl h0
     obtain ⟨ds', i', h', e, r⟩ := hj1 ds b i1 h1 g1 ht6 (fun _ => by omega)
     exact ⟨ds', i', h', Ev.step (fun k => spec_l35Documents.l0.eq_2 ds n l i h k) (neg hp (pos hp2 (known e1 e))), r⟩
    ·obtain ⟨ds', i', h', e, r⟩ := hj1 ds false i h h0 ht6 (fun hh => by simp at hh)
     exact ⟨ds', i', h', Ev.step (fun k => spec_l35Documents.l0.eq_2 ds n l i h k) (neg hp (neg hp2 e)), r⟩
 obtain ⟨v, i1, h1, e1, g1, g2, g3⟩ := below_ok l i h 6 hl h0
 have hv := g3 (by omega)
 obtain ⟨ds', i', h', e, r⟩ := hl0 6 [] v i1 h1 g1 (by omega) (by omega) ⟨by simp, by simp⟩
 exact ⟨ds', i', h', known e1 e, r⟩
theorem drawclose_ok (l : List Int) (hl : l.length ≤ 140737488351232) : ∃ ds day, Ev (fun k => spec_DrawClosePeriod.f k l) (ds, day) ∧ SmD ds := by
 obtain ⟨h1, e1⟩ := new_ok l hl
 obtain ⟨ds, i2, h2, e2, g2, t2⟩ := documents_ok l 0 h1 hl (by omega)
 have hsm : SmD ds := t2.sm (by omega)
 obtain ⟨b, i3, h3, e3, g3⟩ := once_ok l i2 h2 2 hl g2
 have hdraw : ∃ ds' i' h', Ev (fun k => spec_l38Draw.f k l 0 h1) (ds', i', h') ∧ 0 ≤ i' ∧ SmD ds' := by
  by_cases hb : b = true
  ·obtain ⟨v, i4, h4, e4, g4, -⟩ := below_ok l i3 h3 30 hl g3
   by_cases hc : (closeR ds v).2 = true
   ·refine ⟨(closeR ds v).1, i4, h4, Ev.bind e2 (known e3 (pos hb (known e4 (Ev.bind (close_s ds hsm v) (pos hc (Ev.now _)))))), g4, ?_⟩
    have hE := closeE_sm ds v
    unfold closeR at hc ⊢
    split
    ·rename_i h5
     rw [if_pos h5] at hc
     split
     ·exact hsm
     ·rename_i h6
      rw [if_neg h6] at hc
      unfold postR at hc ⊢
      split
      ·refine ⟨by have := t2.1; simp; omega, fun d hd => ?_⟩
       rcases List.mem_append.1 hd with hd | hd
       ·exact hsm.2 d hd
       ·obtain rfl := List.mem_singleton.1 hd
        have hs := addE_sm hE.1 (by omega) (a := sEquity) (by decide) (wrap64 (-profR ds v))
        exact hs
      ·exact ⟨by simp, by simp⟩
    ·exact ⟨by simp, by simp⟩
   ·exact ⟨ds, i4, h4, Ev.bind e2 (known e3 (pos hb (known e4 (Ev.bind (close_s ds hsm v) (neg hc (Ev.now _)))))), g4, hsm⟩
  ·exact ⟨ds, i3, h3, Ev.bind e2 (known e3 (neg hb (Ev.now _))), g3, hsm⟩
 obtain ⟨ds', i', h', e, g, hs⟩ := hdraw
 obtain ⟨day, i5, h5, e5, -⟩ := day4_ok l i' h' hl g
 exact ⟨ds', day, Ev.bind e1 (Ev.bind e (known e5 (Ev.now _))), hs⟩

theorem u8_tri (a b : UInt8) : a < b ∨ a = b ∨ b < a := by
 rcases Nat.lt_trichotomy a.toNat b.toNat with h | h | h
 ·exact .inl (UInt8.lt_iff_toNat_lt.2 h)
 ·exact .inr (.inl (UInt8.toNat_inj.1 h))
 ·exact .inr (.inr (UInt8.lt_iff_toNat_lt.2 h))
theorem bl_irrefl : ∀ x : List UInt8, Op.bytesLess x x = false
 | [] => rfl
 | a :: x => by
  have h : ¬ a < a := fun h => by have := UInt8.lt_iff_toNat_lt.1 h; omega
  simp [Op.bytesLess, h, bl_irrefl x]
theorem bl_trans : ∀ x y z : List UInt8, Op.bytesLess x y = true → Op.bytesLess y z = true → Op.bytesLess x z = true
 | _, [], _, h, _ => by simp [Op.bytesLess] at h
 | _, _ :: _, [], _, h => by simp [Op.bytesLess] at h
 | [], _ :: _, _ :: _, _, _ => by simp [Op.bytesLess]
 | a :: x, b :: y, c :: z, h1, h2 => by
  simp only [Op.bytesLess, Bool.or_eq_true, decide_eq_true_eq, Bool.and_eq_true, beq_iff_eq] at h1 h2 ⊢
  rcases h1 with h1 | ⟨rfl, h1⟩
  ·rcases h2 with h2 | ⟨rfl, h2⟩
   ·exact .inl (UInt8.lt_trans h1 h2)
   ·exact .inl h1
  ·rcases h2 with h2 | ⟨rfl, h2⟩
   ·exact .inl h2
   ·exact .inr ⟨rfl, bl_trans x y z h1 h2⟩
theorem bl_tri : ∀ x y : List UInt8, Op.bytesLess x y = false → x ≠ y → Op.bytesLess y x = true
 | [], [], _, h => absurd rfl h
 | [], _ :: _, h, _ => by simp [Op.bytesLess] at h
 | _ :: _, [], _, _ => by simp [Op.bytesLess]
 | a :: x, b :: y, h1, h2 => by
  simp only [Op.bytesLess, Bool.or_eq_false_iff, decide_eq_false_iff_not, Bool.and_eq_false_iff, beq_eq_false_iff_ne] at h1
  simp only [Op.bytesLess, Bool.or_eq_true, decide_eq_true_eq, Bool.and_eq_true, beq_iff_eq]
  rcases u8_tri a b with h | rfl | h
  ·exact absurd h h1.1
  ·refine .inr ⟨rfl, bl_tri x y ?_ (fun e => h2 (by rw [e]))⟩
   rcases h1.2 with h | h
   ·exact absurd rfl h
   ·exact h
  ·exact .inl h
theorem bl_ne {x y : List UInt8} (h : Op.bytesLess x y = true) : x ≠ y := fun e => by rw [e, bl_irrefl] at h; simp at h
/-- l35Add: an amount into a list with ascending accounts. -/
def insE : List S51 → ByteArray → Int → List S51
 | [], a, n => if n = 0 then [] else [⟨a, n⟩]
 | x :: r, a, n => if Op.bytesLess x.f0.toList a.toList = true then x :: insE r a n else if x.f0.toList = a.toList then (if wrap64 (n + x.f1) = 0 then r else ⟨a, wrap64 (n + x.f1)⟩ :: r) else if n = 0 then x :: r else ⟨a, n⟩ :: x :: r
theorem insE_eq1 {x : S51} {r : List S51} {a : ByteArray} {n : Int} (h : Op.bytesLess x.f0.toList a.toList = false) (he : x.f0.toList = a.toList) : insE (x :: r) a n = if wrap64 (n + x.f1) = 0 then r else ⟨a, wrap64 (n + x.f1)⟩ :: r := by
 conv => lhs; unfold insE
 rw [h]
 simp only [Bool.false_eq_true, if_false]
 rw [if_pos he]
theorem insE_eq2 {x : S51} {r : List S51} {a : ByteArray} {n : Int} (h : Op.bytesLess x.f0.toList a.toList = false) (he : ¬ x.f0.toList = a.toList) : insE (x :: r) a n = if n = 0 then x :: r else ⟨a, n⟩ :: x :: r := by
 conv => lhs; unfold insE
 rw [h]
 simp only [Bool.false_eq_true, if_false]
 rw [if_neg he]
theorem insE_len : ∀ (l : List S51) (a : ByteArray) (n : Int), (insE l a n).length ≤ l.length + 1
 | [], a, n => by unfold insE; split <;> simp
 | x :: r, a, n => by
  have := insE_len r a n
  unfold insE
  split
  ·simp; omega
  ·split
   ·split <;> simp <;> omega
   ·split <;> simp
theorem add_s (l : List S51) (hl : l.length ≤ 1073741824) (a : ByteArray) (n : Int) : Ev (fun k => spec_l35Add.f k l a n) (insE l a n) := by
 have hj2f : ∀ (u v : List S51), u.length ≤ 1073741824 → v.length ≤ 1073741824 → Ev (fun k => spec_l35Add.j2 k a n u v false) (u ++ (if n = 0 then v else ⟨a, n⟩ :: v)) := by
  intro u v hu hv
  refine Ev.step (fun k => spec_l35Add.j2.eq_2 a n u v false k) (neg (by simp) (ite_ (fun h => pos (by omega) (cong (Ev.now _) (by rw [if_pos h]))) (fun h => pos (by omega) (known rfl (pos (by simp; omega) (cong (Ev.now _) (by rw [if_neg h]; simp)))))))
 have hj2t : ∀ (u r : List S51) (x : S51), u.length ≤ 1073741824 → r.length ≤ 1073741824 → Ev (fun k => spec_l35Add.j2 k a n u (x :: r) true) (u ++ (if wrap64 (n + x.f1) = 0 then r else ⟨a, wrap64 (n + x.f1)⟩ :: r)) := by
  intro u r x hu hr
  have e0 : rd_T51 (x :: r) 0 = x := rfl
  refine Ev.step (fun k => spec_l35Add.j2.eq_2 a n u (x :: r) true k) (pos rfl (pos (by simp <;> omega) (pos (by simp <;> omega) (known rfl ?_))))
  rw [e0, show (x :: r).drop 1 = r from rfl]
  exact ite_ (fun h => pos (by omega) (cong (Ev.now _) (by rw [if_pos h]))) (fun h => pos (by omega) (known rfl (pos (by simp; omega) (cong (Ev.now _) (by rw [if_neg h]; simp)))))
 have hj1 : ∀ (i : Int), 0 ≤ i → i ≤ l.length → (∀ x r, l.drop i.toNat = x :: r → Op.bytesLess x.f0.toList a.toList = false) → Ev (fun k => spec_l35Add.j1 k l a n i) (l.take i.toNat ++ insE (l.drop i.toNat) a n) := by
  intro i h0 h1 hx
  refine Ev.step (fun k => spec_l35Add.j1.eq_2 l a n i k) (known rfl (pos h0 (pos h1 (known rfl (pos (by simp; omega) (known rfl (known rfl ?_)))))))
  rw [List.nil_append]
  have hdl : (l.drop i.toNat).length ≤ 1073741824 := by simp; omega
  have htl : (l.take i.toNat).length ≤ 1073741824 := by simp; omega
  cases hd : l.drop i.toNat with
  | nil => exact neg (by simp) (cong (hj2f _ [] htl (by simp)) (by unfold insE; split <;> simp))
  | cons x r =>
   have hb := hx x r hd
   rw [hd, List.length_cons] at hdl
   have e0 : rd_T51 (x :: r) 0 = x := rfl
   refine pos (by simp <;> omega) (pos (by simp <;> omega) ?_)
   rw [e0]
   by_cases he : x.f0.toList = a.toList
   ·rw [show (x.f0.toList == a.toList) = true from beq_iff_eq.2 he]
    exact cong (hj2t _ r x htl (by omega)) (by rw [insE_eq1 hb he])
   ·rw [show (x.f0.toList == a.toList) = false from beq_eq_false_iff_ne.2 he]
    exact cong (hj2f _ (x :: r) htl (by simp; omega)) (by rw [insE_eq2 hb he])
 have key : ∀ (d : Nat) (i : Int), 0 ≤ i → (l.length : Int) - i = d → Ev (fun k => spec_l35Add.l0 k l a n i) (l.take i.toNat ++ insE (l.drop i.toNat) a n) := by
  intro d
  induction d with
  | zero =>
   intro i h0 hd
   refine Ev.step (fun k => spec_l35Add.l0.eq_2 l a n i k) (neg (by omega) (hj1 i h0 (by omega) (fun x r hh => ?_)))
   rw [List.drop_of_length_le (by omega)] at hh
   simp at hh
  | succ d ih =>
   intro i h0 hd
   have hlt : i < (l.length : Int) := by omega
   have e : l.drop i.toNat = rd_T51 l i :: l.drop (i.toNat + 1) := drop_at l z51 i.toNat (by omega)
   refine Ev.step (fun k => spec_l35Add.l0.eq_2 l a n i k) (pos hlt (pos h0 (ite_ (fun hb => ?_) (fun hb => hj1 i h0 (by omega) (fun x r hh => ?_)))))
   ·have h := ih (i + 1) (by omega) (by omega)
    rw [← wrap_inc h0 hlt (by omega)] at h
    refine cong h ?_
    rw [wrap_inc h0 hlt (by omega), show (i + 1).toNat = i.toNat + 1 by omega, e]
    conv => rhs; unfold insE
    rw [if_pos hb, List.take_succ_eq_append_getElem (by omega)]
    simp only [List.append_assoc, List.singleton_append]
    unfold rd_T51
    rw [List.getD_eq_getElem?_getD, List.getElem?_eq_getElem (by omega)]
    rfl
   ·rw [e] at hh
    injection hh with hh1 hh2
    rw [← hh1]
    simpa using hb
 have := key l.length 0 (by omega) (by omega)
 exact cong this (by simp)
def Rng (n : Int) : Prop := -9223372036854775808 ≤ n ∧ n ≤ 9223372036854775807
theorem rng_wrap (n : Int) : Rng (wrap64 n) := by
 unfold Rng wrap64
 omega
/-- Ascending accounts, no amount 0. -/
def Can : List S51 → Prop
 | [] => True
 | x :: r => (x.f1 ≠ 0 ∧ Rng x.f1) ∧ (∀ y ∈ r, Op.bytesLess x.f0.toList y.f0.toList = true) ∧ Can r
def valE : List S51 → ByteArray → Int
 | [], _ => 0
 | x :: r, b => if x.f0.toList = b.toList then x.f1 else valE r b
theorem valE_none : ∀ (l : List S51) (b : ByteArray), (∀ y ∈ l, y.f0.toList ≠ b.toList) → valE l b = 0
 | [], _, _ => rfl
 | x :: r, b, h => by
  unfold valE
  rw [if_neg (h x (by simp))]
  exact valE_none r b (fun y hy => h y (by simp [hy]))
theorem valE_rng : ∀ {l : List S51}, Can l → ∀ b, Rng (valE l b)
 | [], _, b => ⟨by simp [valE], by simp [valE]⟩
 | x :: r, h, b => by
  unfold valE
  split
  ·exact h.1.2
  ·exact valE_rng h.2.2 b
theorem insE_mem : ∀ (l : List S51) (a : ByteArray) (n : Int), ∀ y ∈ insE l a n, y ∈ l ∨ y.f0.toList = a.toList
 | [], a, n, y, hy => by
  unfold insE at hy
  split at hy
  ·simp at hy
  ·obtain rfl := List.mem_singleton.1 hy
   exact .inr rfl
 | x :: r, a, n, y, hy => by
  unfold insE at hy
  split at hy
  ·rcases List.mem_cons.1 hy with rfl | hy
   ·exact .inl (by simp)
   ·rcases insE_mem r a n y hy with h | h
    ·exact .inl (by simp [h])
    ·exact .inr h
  ·split at hy
   ·split at hy
    ·exact .inl (by simp [hy])
    ·rcases List.mem_cons.1 hy with rfl | hy
     ·exact .inr rfl
     ·exact .inl (by simp [hy])
   ·split at hy
    ·exact .inl hy
    ·rcases List.mem_cons.1 hy with rfl | hy
     ·exact .inr rfl
     ·exact .inl hy
theorem insE_can : ∀ {l : List S51} (a : ByteArray) {n : Int}, Can l → Rng n → Can (insE l a n)
 | [], a, n, _, hn => by
  unfold insE
  split
  ·trivial
  ·exact ⟨⟨by assumption, hn⟩, by simp, trivial⟩
 | x :: r, a, n, h, hn => by
  unfold insE
  split
  ·rename_i hb
   refine ⟨h.1, fun y hy => ?_, insE_can a h.2.2 hn⟩
   rcases insE_mem r a n y hy with hy | hy
   ·exact h.2.1 y hy
   ·rw [hy]; exact hb
  ·rename_i hb
   split
   ·rename_i he
    split
    ·exact h.2.2
    ·refine ⟨⟨by assumption, rng_wrap _⟩, fun y hy => ?_, h.2.2⟩
     have := h.2.1 y hy
     rw [he] at this
     exact this
   ·rename_i he
    have hax : Op.bytesLess a.toList x.f0.toList = true := bl_tri _ _ (by simpa using hb) he
    split
    ·exact h
    ·refine ⟨⟨by assumption, hn⟩, fun y hy => ?_, h⟩
     rcases List.mem_cons.1 hy with rfl | hy
     ·exact hax
     ·exact bl_trans _ _ _ hax (h.2.1 y hy)
theorem insE_val : ∀ {l : List S51} (a : ByteArray) {n : Int}, Can l → Rng n → ∀ b : ByteArray, valE (insE l a n) b = if a.toList = b.toList then wrap64 (n + valE l a) else valE l b
 | [], a, n, _, hn, b => by
  have hw : wrap64 (n + 0) = n := by rw [Int.add_zero]; exact wrap_in hn.1 hn.2
  unfold insE
  split
  ·rename_i h0
   subst h0
   simp only [valE]
   split
   ·exact hw.symm
   ·rfl
  ·simp only [valE, hw]
 | x :: r, a, n, h, hn, b => by
  unfold insE
  split
  ·rename_i hb
   have hne := bl_ne hb
   rw [valE, insE_val a h.2.2 hn b]
   by_cases hx : x.f0.toList = b.toList
   ·rw [if_pos hx, if_neg (fun e => hne (hx.trans e.symm)), valE, if_pos hx]
   ·rw [if_neg hx]
    by_cases ha : a.toList = b.toList
    ·rw [if_pos ha, if_pos ha, valE, if_neg hne]
    ·rw [if_neg ha, if_neg ha, valE, if_neg hx]
  ·rename_i hb
   split
   ·rename_i he
    have hr : valE r a = 0 := valE_none r a (fun y hy e => by
     have := bl_ne (h.2.1 y hy)
     exact this (he.trans e.symm))
    have hv : valE (x :: r) a = x.f1 := by rw [valE, if_pos he]
    rw [hv]
    split
    ·rename_i h0
     by_cases ha : a.toList = b.toList
     ·rw [if_pos ha, h0]
      exact valE_none r b (fun y hy e => bl_ne (h.2.1 y hy) (he.trans (ha.trans e.symm)))
     ·rw [if_neg ha, valE, if_neg (fun e => ha (he.symm.trans e))]
    ·by_cases ha : a.toList = b.toList
     ·rw [valE, if_pos ha, if_pos ha]
     ·rw [valE, if_neg ha, if_neg ha, valE, if_neg (fun e => ha (he.symm.trans e))]
   ·rename_i he
    have hax : Op.bytesLess a.toList x.f0.toList = true := bl_tri _ _ (by simpa using hb) he
    have hva : valE (x :: r) a = 0 := valE_none _ a (fun y hy e => by
     rcases List.mem_cons.1 hy with rfl | hy
     ·exact he e
     ·exact bl_ne (bl_trans _ _ _ hax (h.2.1 y hy)) e.symm)
    rw [hva, show wrap64 (n + 0) = n from by rw [Int.add_zero]; exact wrap_in hn.1 hn.2]
    split
    ·rename_i h0
     by_cases ha : a.toList = b.toList
     ·rw [if_pos ha, h0]
      exact valE_none _ b (fun y hy e => by
       rcases List.mem_cons.1 hy with rfl | hy
       ·exact he (e.trans ha.symm)
       ·exact bl_ne (bl_trans _ _ _ hax (h.2.1 y hy)) (ha.trans e.symm))
     ·rw [if_neg ha]
    ·by_cases ha : a.toList = b.toList
     ·simp only [valE, if_pos ha]
     ·rw [if_neg ha]
      conv => lhs; rw [valE, if_neg ha]
theorem can_eq : ∀ {l m : List S51}, Can l → Can m → (∀ b, valE l b = valE m b) → l = m
 | [], [], _, _, _ => rfl
 | [], y :: s, _, hm, h => absurd (h y.f0) (by rw [valE, valE, if_pos rfl]; exact fun e => hm.1.1 e.symm)
 | x :: r, [], hl, _, h => absurd (h x.f0) (by rw [valE, valE, if_pos rfl]; exact hl.1.1)
 | x :: r, y :: s, hl, hm, h => by
  by_cases he : x.f0.toList = y.f0.toList
  ·have hf : x.f1 = y.f1 := by
    have := h x.f0
    rw [valE, valE, if_pos rfl, if_pos he.symm] at this
    exact this
   have hxy : x = y := by
    cases x; cases y
    simp only at he hf
    rw [toList_inj he, hf]
   have hrs : r = s := can_eq hl.2.2 hm.2.2 (fun b => by
    by_cases hb : x.f0.toList = b.toList
    ·rw [valE_none r b (fun z hz e => bl_ne (hl.2.1 z hz) (hb.trans e.symm)), valE_none s b (fun z hz e => bl_ne (hm.2.1 z hz) (he.symm.trans (hb.trans e.symm)))]
    ·have := h b
     rw [valE, valE, if_neg hb, if_neg (fun e => hb (he.trans e))] at this
     exact this)
   rw [hxy, hrs]
  ·rcases hbl : Op.bytesLess x.f0.toList y.f0.toList with _ | _
   ·have hyx := bl_tri _ _ hbl he
    have h1 := h y.f0
    rw [valE_none (x :: r) y.f0 (fun z hz e => by
     rcases List.mem_cons.1 hz with rfl | hz
     ·exact he e
     ·exact bl_ne (bl_trans _ _ _ hyx (hl.2.1 z hz)) e.symm), valE, if_pos rfl] at h1
    exact absurd h1.symm hm.1.1
   ·have h1 := h x.f0
    rw [valE_none (y :: s) x.f0 (fun z hz e => by
     rcases List.mem_cons.1 hz with rfl | hz
     ·exact he e.symm
     ·exact bl_ne (bl_trans _ _ _ hbl (hm.2.1 z hz)) e.symm), valE, if_pos rfl] at h1
    exact absurd h1 hl.1.1
def addAll (t : List S51) (es : List S51) : List S51 := es.foldl (fun t x => insE t x.f0 x.f1) t
theorem addAll_len : ∀ (es t : List S51), (addAll t es).length ≤ t.length + es.length
 | [], t => by simp [addAll]
 | x :: r, t => by
  have h1 := addAll_len r (insE t x.f0 x.f1)
  have h2 := insE_len t x.f0 x.f1
  have : addAll t (x :: r) = addAll (insE t x.f0 x.f1) r := rfl
  rw [this, List.length_cons]
  omega
theorem addAll_can : ∀ (es : List S51) {t : List S51}, Can t → (∀ x ∈ es, Rng x.f1) → Can (addAll t es)
 | [], _, h, _ => h
 | x :: r, _, h, hr => addAll_can r (insE_can x.f0 h (hr x (by simp))) (fun y hy => hr y (by simp [hy]))
/-- What the entries of an account add. -/
def sumA (b : ByteArray) : List S51 → Int
 | [] => 0
 | x :: r => (if x.f0.toList = b.toList then x.f1 else 0) + sumA b r
theorem addAll_val (b : ByteArray) : ∀ (es : List S51) {t : List S51}, Can t → (∀ x ∈ es, Rng x.f1) → valE (addAll t es) b = wrap64 (valE t b + sumA b es)
 | [], t, h, _ => by
  have := valE_rng h b
  show valE t b = wrap64 (valE t b + 0)
  rw [Int.add_zero, wrap_in this.1 this.2]
 | x :: r, t, h, hr => by
  have h1 := addAll_val b r (insE_can x.f0 h (hr x (by simp))) (fun y hy => hr y (by simp [hy]))
  show valE (addAll (insE t x.f0 x.f1) r) b = _
  rw [h1, insE_val x.f0 h (hr x (by simp)) b]
  show _ = wrap64 (valE t b + ((if x.f0.toList = b.toList then x.f1 else 0) + sumA b r))
  by_cases hb : x.f0.toList = b.toList
  ·have hv : valE t x.f0 = valE t b := by
    rw [toList_inj hb]
   rw [if_pos hb, if_pos hb, hv]
   unfold wrap64
   omega
  ·rw [if_neg hb, if_neg hb, Int.zero_add]

theorem docsFrom_mem : ∀ (l : List S66) (i : Int), docsFrom i l = true → ∀ d ∈ l, inB d.f1 0 999 = true ∧ entriesB d.f2 = true
 | [], _, _, _, hd => by simp at hd
 | x :: r, i, h, d, hd => by
  unfold docsFrom at h
  rw [Bool.and_eq_true] at h
  rcases List.mem_cons.1 hd with rfl | hd
  ·have := h.1
   unfold docOk at this
   simp only [Bool.and_eq_true] at this
   exact ⟨this.2.1, this.2.2⟩
  ·exact docsFrom_mem r (i + 1) h.2 d hd
theorem docsB_mem {l : List S66} (h : docsB l = true) : (l.length : Int) ≤ 120 ∧ ∀ d ∈ l, (0 ≤ d.f1 ∧ d.f1 ≤ 999) ∧ d.f2.length ≤ 12 ∧ ∀ x ∈ d.f2, -1000000000 ≤ x.f1 ∧ x.f1 ≤ 1000000000 := by
 unfold docsB at h
 rw [Bool.and_eq_true, decide_eq_true_eq] at h
 refine ⟨h.2, fun d hd => ?_⟩
 obtain ⟨h1, h2⟩ := docsFrom_mem l 0 h.1 d hd
 unfold entriesB at h2
 simp only [Bool.and_eq_true, List.all_eq_true] at h2
 refine ⟨inB_iff.1 h1, by have := inB_iff.1 h2.2.1; omega, fun x hx => ?_⟩
 exact (entOk_iff.1 (h2.1 x hx)).2.1
def tbF (day : Int) (t : List S51) (l : List S66) : List S51 := l.foldl (fun t d => if d.f1 ≤ day then addAll t d.f2 else t) t
noncomputable def tbR (l : List S66) (day : Int) : List S51 := if docsB l = true then tbF day [] l else []
theorem tbF_len (day : Int) : ∀ (l : List S66) (t : List S51), (∀ d ∈ l, d.f2.length ≤ 12) → (tbF day t l).length ≤ t.length + 12 * l.length
 | [], t, _ => by simp [tbF]
 | x :: r, t, h => by
  have h1 := tbF_len day r (if x.f1 ≤ day then addAll t x.f2 else t) (fun d hd => h d (by simp [hd]))
  have h2 := addAll_len x.f2 t
  have h3 := h x (by simp)
  have : tbF day t (x :: r) = tbF day (if x.f1 ≤ day then addAll t x.f2 else t) r := rfl
  rw [this, List.length_cons]
  split at h1 <;> rename_i hc <;> simp only [hc, if_true, if_false] <;> omega
theorem trial_s (l : List S66) (h : SmD l) (day : Int) : Ev (fun k => spec_TrialBalance.f k l day) (tbR l day) := by
 have hl := h.1
 unfold tbR
 by_cases hd : docsB l = true
 ·rw [if_pos hd]
  obtain ⟨h1, h2⟩ := docsB_mem hd
  have key : ∀ (d : Nat) (acc : List S51) (i : Int), 0 ≤ i → (l.length : Int) - i = d → (acc.length : Int) ≤ 12 * i → Ev (fun k => spec_TrialBalance.l0 k l day acc i) (tbF day acc (l.drop i.toNat)) := by
   intro d
   induction d with
   | zero =>
    intro acc i h0 hdd ha
    refine Ev.step (fun k => spec_TrialBalance.l0.eq_2 l day acc i k) (neg (by omega) (Ev.step (fun k => spec_TrialBalance.j1.eq_2 l day acc i false k) (neg (by simp) (cong (Ev.now _) ?_))))
    rw [List.drop_of_length_le (by omega)]
    rfl
   | succ d ih =>
    intro acc i h0 hdd ha
    have hlt : i < (l.length : Int) := by omega
    have hm : rd_T66 l i ∈ l := getD_mem l _ _ (by omega)
    have hmm := h2 _ hm
    have e : l.drop i.toNat = rd_T66 l i :: l.drop (i.toNat + 1) := drop_at l z66 i.toNat (by omega)
    have hw : wrap64 (i + 1) = i + 1 := wrap_inc h0 hlt (by omega)
    have inner : ∀ (m : Nat) (t : List S51) (j : Int), 0 ≤ j → ((rd_T66 l i).f2.length : Int) - j = m → (t.length : Int) ≤ 12 * i + j →
      Ev (fun k => spec_TrialBalance.l1 k l day t i j) (tbF day (if (rd_T66 l i).f1 ≤ day then addAll t ((rd_T66 l i).f2.drop j.toNat) else t) (l.drop (i.toNat + 1))) := by
     intro m
     induction m with
     | zero =>
      intro t j hj hm0 ht
      have hn := ih t (i + 1) (by omega) (by omega) (by omega)
      rw [show (i + 1).toNat = i.toNat + 1 by omega, ← hw] at hn
      refine Ev.step (fun k => spec_TrialBalance.l1.eq_2 l day t i j k) (pos h0 (pos hlt (neg (by omega) (cong hn ?_))))
      have e0 : (rd_T66 l i).f2.drop j.toNat = [] := List.drop_of_length_le (by omega)
      rw [e0]
      split <;> rfl
     | succ m ihm =>
      intro t j hj hm0 ht
      have hjl : j < ((rd_T66 l i).f2.length : Int) := by omega
      have hwj : wrap64 (j + 1) = j + 1 := wrap_inc hj hjl (by omega)
      refine Ev.step (fun k => spec_TrialBalance.l1.eq_2 l day t i j k) (pos h0 (pos hlt (pos hjl (ite_ (fun hc => pos hj ?_) (fun hc => ?_)))))
      ·have hil := insE_len t (rd_T51 (rd_T66 l i).f2 j).f0 (rd_T51 (rd_T66 l i).f2 j).f1
       have hn := ihm (insE t (rd_T51 (rd_T66 l i).f2 j).f0 (rd_T51 (rd_T66 l i).f2 j).f1) (j + 1) (by omega) (by omega) (by omega)
       rw [show (j + 1).toNat = j.toNat + 1 by omega, ← hwj] at hn
       refine Ev.bind (add_s t (by omega) _ _) (cong hn ?_)
       rw [if_pos hc, if_pos hc, drop_at (rd_T66 l i).f2 z51 j.toNat (by omega)]
       rfl
      ·have hn := ih t (i + 1) (by omega) (by omega) (by omega)
       rw [show (i + 1).toNat = i.toNat + 1 by omega, ← hw] at hn
       exact cong hn (by rw [if_neg hc])
    have hin := inner (rd_T66 l i).f2.length acc 0 (by omega) (by omega) (by omega)
    refine Ev.step (fun k => spec_TrialBalance.l0.eq_2 l day acc i k) (pos hlt (Ev.bind (docs_s l h.good) (Ev.step (fun k => spec_TrialBalance.j1.eq_2 l day acc i _ k) (pos hd (cong hin ?_)))))
    rw [e]
    rfl
  have := key l.length [] 0 (by omega) (by omega) (by simp)
  exact cong this (by simp)
 ·rw [if_neg hd]
  refine Ev.step (fun k => spec_TrialBalance.l0.eq_2 l day [] 0 k) (ite_ (fun hlt => Ev.bind (docs_s l h.good) (Ev.step (fun k => spec_TrialBalance.j1.eq_2 l day [] 0 _ k) (neg hd (Ev.now _)))) (fun hlt => Ev.step (fun k => spec_TrialBalance.j1.eq_2 l day [] 0 false k) (neg (by simp) (Ev.now _))))
theorem same_f (a : List S51) (hl : a.length ≤ 1073741824) : Ev (fun k => laws_sameEntries.f k a a) true := by
 have key : ∀ (d : Nat) (i : Int), 0 ≤ i → (a.length : Int) - i = d → Ev (fun k => laws_sameEntries.l0 k a a i) true := by
  intro d
  induction d with
  | zero =>
   intro i h0 hd
   exact Ev.step (fun k => laws_sameEntries.l0.eq_2 a a i k) (neg (by omega) (Ev.now _))
  | succ d ih =>
   intro i h0 hd
   have hlt : i < (a.length : Int) := by omega
   have h := ih (i + 1) (by omega) (by omega)
   rw [← wrap_inc h0 hlt (by omega)] at h
   exact Ev.step (fun k => laws_sameEntries.l0.eq_2 a a i k) (pos hlt (pos h0 (pos hlt (neg (by simp) h))))
 exact pos rfl (key a.length 0 (by omega) (by omega))
theorem sumA_neg (b : ByteArray) : ∀ (es : List S51), (∀ x ∈ es, -1000000000 ≤ x.f1 ∧ x.f1 ≤ 1000000000) → sumA b (es.map ngE) = - sumA b es
 | [], _ => rfl
 | x :: r, h => by
  have h1 := sumA_neg b r (fun y hy => h y (by simp [hy]))
  have h2 := h x (by simp)
  show (if (ngE x).f0.toList = b.toList then (ngE x).f1 else 0) + sumA b (r.map ngE) = -((if x.f0.toList = b.toList then x.f1 else 0) + sumA b r)
  have h3 : (ngE x).f1 = -x.f1 := wrap_in (by omega) (by omega)
  have h4 : (ngE x).f0 = x.f0 := rfl
  rw [h1, h3, h4]
  split <;> omega
theorem tbF_can (day : Int) : ∀ (l : List S66) {t : List S51}, Can t → (∀ d ∈ l, ∀ x ∈ d.f2, Rng x.f1) → Can (tbF day t l)
 | [], _, h, _ => h
 | x :: r, t, h, hr => by
  refine tbF_can day r (t := if x.f1 ≤ day then addAll t x.f2 else t) ?_ (fun d hd => hr d (by simp [hd]))
  split
  ·exact addAll_can x.f2 h (hr x (by simp))
  ·exact h
theorem addAll_undo {t es : List S51} (h : Can t) (hs : ∀ x ∈ es, -1000000000 ≤ x.f1 ∧ x.f1 ≤ 1000000000) : addAll (addAll t es) (es.map ngE) = t := by
 have r1 : ∀ x ∈ es, Rng x.f1 := fun x hx => by have := hs x hx; unfold Rng; omega
 have r2 : ∀ x ∈ es.map ngE, Rng x.f1 := fun x hx => by
  obtain ⟨y, hy, rfl⟩ := List.mem_map.1 hx
  exact rng_wrap _
 have c1 := addAll_can es h r1
 refine can_eq (addAll_can _ c1 r2) h (fun b => ?_)
 have hv := valE_rng h b
 rw [addAll_val b _ c1 r2, addAll_val b es h r1, sumA_neg b es hs]
 unfold Rng at hv
 unfold wrap64
 omega
theorem balE_add (a b : ByteArray) (n s : Int) (hs : Rng s) (es : List S51) : balE a s (addE es b n) = if b.toList = a.toList then wrap64 (balE a s es + n) else balE a s es := by
 unfold addE
 split
 ·rename_i h0
  have hr := balE_rng a es s hs
  subst h0
  rw [Int.add_zero, wrap_in hr.1 hr.2]
  simp
 ·unfold balE
  rw [List.foldl_append]
  rfl
theorem balE_close {s : Int} (hs : Rng s) (a : ByteArray) (n1 n2 n3 : Int) : balE a s (addE (addE (addE [] sSales n1) sCost n2) sEquity n3) =
  if sSales.toList = a.toList then wrap64 (s + n1) else if sCost.toList = a.toList then wrap64 (s + n2) else if sEquity.toList = a.toList then wrap64 (s + n3) else s := by
 rw [balE_add _ _ _ _ hs, balE_add _ _ _ _ hs, balE_add _ _ _ _ hs]
 have e : balE a s [] = s := rfl
 rw [e]
 have d1 : sSales.toList ≠ sCost.toList := by rw [ByteArray.toList_eq, ByteArray.toList_eq]; decide
 have d2 : sSales.toList ≠ sEquity.toList := by rw [ByteArray.toList_eq, ByteArray.toList_eq]; decide
 have d3 : sCost.toList ≠ sEquity.toList := by rw [ByteArray.toList_eq, ByteArray.toList_eq]; decide
 by_cases h1 : sSales.toList = a.toList
 ·rw [if_pos h1, if_neg (fun h => d2 (h1.trans h.symm)), if_neg (fun h => d1 (h1.trans h.symm)), if_pos h1]
 ·rw [if_neg h1, if_neg h1]
  by_cases h2 : sCost.toList = a.toList
  ·rw [if_pos h2, if_neg (fun h => d3 (h2.trans h.symm)), if_pos h2]
  ·rw [if_neg h2, if_neg h2]
theorem balD_app (a : ByteArray) (day s : Int) (l : List S66) (d : S66) : balD a day s (l ++ [d]) = if d.f1 ≤ day then balE a (balD a day s l) d.f2 else balD a day s l := by
 unfold balD
 rw [List.foldl_append]
 rfl
theorem tbF_app (day : Int) (t : List S51) (l : List S66) (d : S66) : tbF day t (l ++ [d]) = if d.f1 ≤ day then addAll (tbF day t l) d.f2 else tbF day t l := by
 unfold tbF
 rw [List.foldl_append]
 rfl
theorem rd_last (l : List S66) (d : S66) : rd_T66 (l ++ [d]) (((l ++ [d]).length : Int) - 1) = d := by
 unfold rd_T66
 rw [show (((l ++ [d]).length : Int) - 1).toNat = l.length by simp]
 simp
theorem post_true {l : List S66} {day : Int} {es : List S51} (h : (postR l day es).2 = true) : (postR l day es).1 = l ++ [⟨(l.length : Int) + 1, day, es⟩] ∧ docsB (l ++ [⟨(l.length : Int) + 1, day, es⟩]) = true := by
 unfold postR at h ⊢
 split at h
 ·rename_i hd
  rw [if_pos hd]
  exact ⟨rfl, hd⟩
 ·simp at h
theorem evs {P Q : Nat → Prop} (h1 : ∃ K, ∀ k, K ≤ k → P k) (h2 : ∃ K, ∀ k, K ≤ k → Q k) : ∃ K, ∀ k, K ≤ k → P k ∧ Q k := by
 obtain ⟨a, h1⟩ := h1
 obtain ⟨b, h2⟩ := h2
 exact ⟨max a b, fun k hk => ⟨h1 k (by omega), h2 k (by omega)⟩⟩
theorem post_smd {l : List S66} (h : SmD l) (hl : l.length ≤ 1000) (day : Int) {es : List S51} (he : SmE es) : SmD (postR l day es).1 := by
 unfold postR
 split
 ·refine ⟨by simp; omega, fun d hd => ?_⟩
  rcases List.mem_append.1 hd with hd | hd
  ·exact h.2 d hd
  ·obtain rfl := List.mem_singleton.1 hd
   exact he
 ·exact ⟨by simp, by simp⟩
structure Facts (l x : List S66) (day p : Int) : Prop where
 docs : docsB x = true
 sm : SmD x
 other : ∀ a : ByteArray, sSales.toList ≠ a.toList → sCost.toList ≠ a.toList → sEquity.toList ≠ a.toList → balR x a day = balR l a day
 sales : balR x sSales day = 0
 cost : balR x sCost day = 0
 equity : balR x sEquity day = wrap64 (balR l sEquity day - p)
 before : tbR x (day - 1) = tbR l (day - 1)
 fin : (reopR x).2 = true → x.length = l.length ∨ p = 0 ∨ (tbR (reopR x).1 999 = tbR l 999 ∧ docsB (reopR x).1 = true)
theorem facts (l : List S66) (hS : SmD l) (day : Int) (hc : (closeR l day).2 = true) : docsB l = true ∧ Facts l (closeR l day).1 day (profR l day) := by
 have hde : docsB l = true ∧ inB day 0 999 = true := by
  by_cases h : docsB l = true ∧ inB day 0 999 = true
  ·exact h
  ·unfold closeR at hc
   rw [if_neg h] at hc
   simp at hc
 obtain ⟨hd, hin⟩ := hde
 refine ⟨hd, ?_⟩
 have hday := inB_iff.1 hin
 obtain ⟨hE, hEl⟩ := closeE_sm l day
 obtain ⟨hn, hdm⟩ := docsB_mem hd
 have rs := balR_rng l sSales day
 have rc := balR_rng l sCost day
 have re := balR_rng l sEquity day
 by_cases hz : (closeE l day).length = 0
 ·have hx : (closeR l day).1 = l := by
   unfold closeR
   rw [if_pos ⟨hd, hin⟩, if_pos hz]
  rw [hx]
  have hzero : balR l sSales day = 0 ∧ balR l sCost day = 0 := by
   unfold closeE at hz
   rw [addE_neg _ _ rs, addE_neg _ _ rc] at hz
   by_cases h1 : balR l sSales day = 0
   ·by_cases h2 : balR l sCost day = 0
    ·exact ⟨h1, h2⟩
    ·rw [if_neg h2] at hz
     simp at hz
   ·rw [if_neg h1] at hz
    split at hz <;> simp at hz
  have hp : profR l day = 0 := by
   unfold profR
   rw [hzero.1, hzero.2]
   unfold wrap64
   omega
  refine ⟨hd, hS, fun _ _ _ _ => rfl, hzero.1, hzero.2, ?_, rfl, fun _ => .inl rfl⟩
  rw [hp, Int.sub_zero, wrap_in re.1 re.2]
 ·obtain ⟨E, hEq⟩ : ∃ E, E = addE (closeE l day) sEquity (wrap64 (-profR l day)) := ⟨_, rfl⟩
  have hcr : closeR l day = postR l day E := by
   unfold closeR
   rw [if_pos ⟨hd, hin⟩, if_neg hz, hEq]
  rw [hcr] at hc ⊢
  obtain ⟨hx, hdx⟩ := post_true hc
  have hsE : SmE E := by
   rw [hEq]
   exact addE_sm hE (by omega) (by decide) _
  have hsx := post_smd hS (by omega) day hsE
  rw [hx] at hsx ⊢
  obtain ⟨hnx, hdmx⟩ := docsB_mem hdx
  have hEb : ∀ y ∈ E, -1000000000 ≤ y.f1 ∧ y.f1 ≤ 1000000000 := fun y hy => (hdmx ⟨(l.length : Int) + 1, day, E⟩ (by simp)).2.2 y hy
  have hbal : ∀ a, balR (l ++ [⟨(l.length : Int) + 1, day, E⟩]) a day = balE a (balR l a day) E := fun a => by
   unfold balR
   rw [if_pos hdx, if_pos hd, balD_app]
   exact if_pos (Int.le_refl _)
  have hE3 : E = addE (addE (addE [] sSales (wrap64 (-balR l sSales day))) sCost (wrap64 (-balR l sCost day))) sEquity (wrap64 (-profR l day)) := by
   rw [hEq]
   rfl
  have hbal2 : ∀ a, balR (l ++ [⟨(l.length : Int) + 1, day, E⟩]) a day = if sSales.toList = a.toList then wrap64 (balR l a day + wrap64 (-balR l sSales day)) else if sCost.toList = a.toList then wrap64 (balR l a day + wrap64 (-balR l sCost day)) else if sEquity.toList = a.toList then wrap64 (balR l a day + wrap64 (-profR l day)) else balR l a day := fun a => by
   rw [hbal a, hE3, balE_close (balR_rng l a day)]
  have d1 : sSales.toList ≠ sCost.toList := by rw [ByteArray.toList_eq, ByteArray.toList_eq]; decide
  have d2 : sSales.toList ≠ sEquity.toList := by rw [ByteArray.toList_eq, ByteArray.toList_eq]; decide
  have d3 : sCost.toList ≠ sEquity.toList := by rw [ByteArray.toList_eq, ByteArray.toList_eq]; decide
  refine ⟨hdx, hsx, fun a h1 h2 h3 => ?_, ?_, ?_, ?_, ?_, fun ho => ?_⟩
  ·rw [hbal2, if_neg h1, if_neg h2, if_neg h3]
  ·rw [hbal2, if_pos rfl]
   unfold wrap64
   omega
  ·rw [hbal2, if_neg d1, if_pos rfl]
   unfold wrap64
   omega
  ·rw [hbal2, if_neg d2, if_neg d3, if_pos rfl]
   unfold wrap64
   omega
  ·unfold tbR
   rw [if_pos hdx, if_pos hd, tbF_app]
   exact if_neg (show ¬ day ≤ day - 1 by omega)
  ·refine .inr (.inr ?_)
   have hlast := rd_last l ⟨(l.length : Int) + 1, day, E⟩
   by_cases hcond : docsB (l ++ [⟨(l.length : Int) + 1, day, E⟩]) = true ∧ 1 ≤ (l ++ [(⟨(l.length : Int) + 1, day, E⟩ : S66)]).length ∧ (rd_T66 (l ++ [⟨(l.length : Int) + 1, day, E⟩]) (((l ++ [(⟨(l.length : Int) + 1, day, E⟩ : S66)]).length : Int) - 1)).f2.any eqtB = true
   ·have hre : reopR (l ++ [⟨(l.length : Int) + 1, day, E⟩]) = postR (l ++ [⟨(l.length : Int) + 1, day, E⟩]) day (E.map ngE) := by
     unfold reopR
     rw [if_pos hcond]
     unfold revR
     rw [hlast]
    rw [hre] at ho ⊢
    obtain ⟨hy, hdy⟩ := post_true ho
    rw [hy]
    refine ⟨?_, hdy⟩
    have hcan : Can (tbF 999 [] l) := tbF_can 999 l trivial (fun d hd' x hx' => by
     have := (hdm d hd').2.2 x hx'
     unfold Rng
     omega)
    unfold tbR
    rw [if_pos hdy, if_pos hd, tbF_app, tbF_app]
    simp only
    rw [if_pos (by omega), if_pos (by omega)]
    exact addAll_undo hcan hEb
   ·exfalso
    unfold reopR at ho
    rw [if_neg hcond] at ho
    simp at ho
theorem tbR_len {l : List S66} (day : Int) : (tbR l day).length ≤ 2000 := by
 unfold tbR
 split
 ·rename_i hd
  obtain ⟨h1, h2⟩ := docsB_mem hd
  have := tbF_len day l [] (fun d hd => (h2 d hd).2.1)
  simp at this
  omega
 ·simp
theorem reop_smd {l : List S66} (h : SmD l) : SmD (reopR l).1 := by
 unfold reopR
 split
 ·rename_i hc
  have hl := (docsB_mem hc.1).1
  have hm : rd_T66 l ((l.length : Int) - 1) ∈ l := getD_mem l _ _ (by omega)
  exact post_smd h (by omega) _ (ng_sm (h.2 _ hm))
 ·exact ⟨by simp, by simp⟩
theorem FnClosed (c : List Int) (g : c.length * 1 ≤ 140737488351232 ∧ ∀ x ∈ c, (Lit.int .u8 x).wf = true) : ∃ k, AllOk k c := by
 by_cases hbig : (c.length : Int) > 1048576
 ·exact ⟨0, .inl (by unfold laws_big.f; rw [decide_eq_true hbig])⟩
 ·have hb : laws_big.f c = some false := by unfold laws_big.f; rw [decide_eq_false hbig]
  obtain ⟨l, day, hdr, hS⟩ := drawclose_ok c (by omega)
  have hi := close_i l hS day
  have hs := close_s l hS day
  by_cases hc : (closeR l day).2 = true
  ·obtain ⟨hd, F⟩ := facts l hS day hc
   obtain ⟨x, hx⟩ : ∃ x, x = (closeR l day).1 := ⟨_, rfl⟩
   have hcx : closeR l day = (x, true) := by rw [hx, ← hc]
   rw [← hx] at F
   rw [hcx] at hi hs
   have hco : Ev (fun k => impl_IsClosedOn.f k x day) true := by
    refine Ev.bind (docs_i x F.sm.good) (pos F.docs (Ev.bind (bal_i x F.sm.good sSales day) (pos F.sales (Ev.bind (bal_i x F.sm.good sCost day) (cong (Ev.now _) ?_)))))
    rw [F.cost]
    rfl
   have nm : ∀ a : ByteArray, a.toList = [67, 65, 83, 72] ∨ a.toList = [83, 84, 79, 67, 75] ∨ a.toList = [87, 79, 82, 75] ∨ a.toList = [83, 85, 80, 80, 76, 89] → balR x a day = balR l a day := fun a h => by
    have e1 : sSales.toList = [83, 65, 76, 69, 83] := by rw [ByteArray.toList_eq]; rfl
    have e2 : sCost.toList = [67, 79, 83, 84] := by rw [ByteArray.toList_eq]; rfl
    have e3 : sEquity.toList = [69, 81, 85, 73, 84, 89] := by rw [ByteArray.toList_eq]; rfl
    refine F.other a ?_ ?_ ?_ <;> (first | rw [e1] | rw [e2] | rw [e3]) <;> rcases h with h | h | h | h <;> rw [h] <;> decide
   have bx := fun a => bal_s x F.sm.good a day
   have bl := fun a => bal_s l hS.good a day
   have h0 := bx sCash
   have h1 := bx sStock
   have h2 := bx sWork
   have h3 := bx sSupply
   rw [nm sCash (.inl (by rw [ByteArray.toList_eq]; rfl))] at h0
   rw [nm sStock (.inr (.inl (by rw [ByteArray.toList_eq]; rfl)))] at h1
   rw [nm sWork (.inr (.inr (.inl (by rw [ByteArray.toList_eq]; rfl))))] at h2
   rw [nm sSupply (.inr (.inr (.inr (by rw [ByteArray.toList_eq]; rfl))))] at h3
   have he := bx sEquity
   rw [F.equity] at he
   have hyS := reop_smd F.sm
   obtain ⟨K, hK⟩ := evs hdr (evs hi (evs hs (evs h0 (evs (bl sCash) (evs h1 (evs (bl sStock) (evs h2 (evs (bl sWork) (evs h3 (evs (bl sSupply) (evs hco (evs he (evs (bl sEquity) (evs (prof_i l hS day) (evs (trial_s x F.sm (wrap64 (day - 1))) (evs (trial_s l hS (wrap64 (day - 1))) (evs (same_f (tbR l (wrap64 (day - 1))) (by have := tbR_len (l := l) (wrap64 (day - 1)); omega)) (evs (reop_i x F.sm) (evs (trial_s (reopR x).1 hyS 999) (evs (trial_s l hS 999) (evs (same_f (tbR l 999) (by have := tbR_len (l := l) 999; omega)) (docs_s (reopR x).1 hyS.good))))))))))))))))))))))
   obtain ⟨a1, a2, a3, a4, a5, a6, a7, a8, a9, a10, a11, a12, a13, a14, a15, a16, a17, a18, a19, a20, a21, a22, a23⟩ := hK K (Nat.le_refl _)
   have hday : docsB l = true ∧ inB day 0 999 = true := by
    by_cases h : docsB l = true ∧ inB day 0 999 = true
    ·exact h
    ·unfold closeR at hc
     rw [if_neg h] at hc
     simp at hc
   have hin := inB_iff.1 hday.2
   have hw : wrap64 (day - 1) = day - 1 := wrap_in (by omega) (by omega)
   refine ⟨K, .inr ⟨hb, .inr ⟨l, x, (reopR x).1, day, profR l day, balR l sEquity day, balR l sCash day, balR l sStock day, balR l sWork day, balR l sSupply day, (reopR x).2, tbR l (wrap64 (day - 1)), tbR l 999, ⟨hb, a1, a2, a3, a4, a5, a6, a7, a8, a9, a10, a11, a12, a13, a14, a15, fun _ => ?_, fun _ => a17, a18, a19, ?_⟩⟩⟩⟩
   ·refine a16.trans ?_
    rw [hw, F.before]
   ·by_cases ho : (reopR x).2 = true
    ·rcases F.fin ho with h | h | ⟨h, h'⟩
     ·exact .inl h
     ·exact .inr (.inl h)
     ·exact .inr (.inr (.inr ⟨a20.trans (by rw [h]), a21, a22, a23.trans (by rw [h'])⟩))
    ·exact .inr (.inr (.inl (by simpa using ho)))
  ·have e : closeR l day = ([], false) := by
    unfold closeR at hc ⊢
    split at hc
    ·rename_i h1
     rw [if_pos h1]
     split at hc
     ·simp at hc
     ·rename_i h2
      rw [if_neg h2]
      unfold postR at hc ⊢
      split at hc
      ·simp at hc
      ·rename_i h3
       rw [if_neg h3]
    ·rename_i h1
     rw [if_neg h1]
   rw [e] at hi hs
   obtain ⟨K, hK⟩ := evs hdr (evs hi hs)
   obtain ⟨a1, a2, a3⟩ := hK K (Nat.le_refl _)
   exact ⟨K, .inr ⟨hb, .inl ⟨l, day, a1, a2, a3⟩⟩⟩

end Go.Proofs.Ytjhjeghgeclglaa.PureFnClosed
