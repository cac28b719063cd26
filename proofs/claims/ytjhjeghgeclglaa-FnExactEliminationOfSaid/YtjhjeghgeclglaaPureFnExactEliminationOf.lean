/- Plain laws for FnExactEliminationOf (what the printed functions compute). -/
import Derived.Test.YtjhjeghgeclglaaPFnExactEliminationOfx6
import Derived.Test.YtjhjeghgeclglaaEv
namespace Go.Proofs.Ytjhjeghgeclglaa.PureFnExactEliminationOf
open Go.RowKit Go.Proofs.Ytjhjeghgeclglaa.PFnExactEliminationOf Go.Proofs.YtjhjeghgeclglaaW.PrintWords Go.Proofs.YtjhjeghgeclglaaW.PrintLast Go.Proofs.YtjhjeghgeclglaaW.PrintMore Go.Proofs.YtjhjeghgeclglaaEv
set_option linter.unusedVariables false
def inB (a b c : Int) : Bool := decide (a ≥ b) && decide (a ≤ c)
theorem inB_iff {a b c : Int} : inB a b c = true ↔ b ≤ a ∧ a ≤ c := by simp [inB]
theorem in_s (a b c : Int) : spec_l1In.f a b c = some (inB a b c) := by
  unfold spec_l1In.f inB
  by_cases h : a ≥ b <;> simp [h]
theorem in_i (a b c : Int) : impl_in.f a b c = some (inB a b c) := in_s a b c

theorem eqEntry_f (a : List S51) (hl : a.length ≤ 5864062014634) : Ev (fun k => laws_eqEntryS.f k a a) true := by
  have key : ∀ (d : Nat) (i : Int), 0 ≤ i → (a.length : Int) - i = d → Ev (fun k => laws_eqEntryS.l0 k a a i) true := by
    intro d
    induction d with
    | zero =>
      intro i h0 hd
      exact Ev.step (fun k => laws_eqEntryS.l0.eq_2 a a i k) (neg (by omega) (Ev.now _))
    | succ d ih =>
      intro i h0 hd
      have hlt : i < (a.length : Int) := by omega
      have h := ih (i + 1) (by omega) (by omega)
      rw [← wrap_inc h0 hlt (by omega)] at h
      exact Ev.step (fun k => laws_eqEntryS.l0.eq_2 a a i k) (pos hlt (pos h0 (pos hlt (known (show laws_eqEntry.f _ _ _ _ = some true by simp [laws_eqEntry.f]) (pos rfl h)))))
  exact pos rfl (key a.length 0 (by omega) (by omega))

theorem markText_f (n : Int) (h0 : 0 < n) (hn : n ≤ 4611686018427387904) : ∃ t, Ev (fun k => laws_markText.f k n) t := by
  have key : ∀ (d : Nat) (n : Int) (acc : ByteArray), n.toNat ≤ d → 0 ≤ n → acc.size + n ≤ 4611686018427387904 → ∃ t, Ev (fun k => laws_markText.l0 k n acc) t := by
    intro d
    induction d with
    | zero =>
      intro n acc hd h0 hs
      exact ⟨_, Ev.step (fun k => laws_markText.l0.eq_2 n acc k) (neg (by omega) (pos (by omega) (Ev.now _)))⟩
    | succ d ih =>
      intro n acc hd h0 hs
      by_cases hp : n > 0
      · have hw : wrap64 (Int.tdiv n 10) = Int.tdiv n 10 := wrap_in (by rw [Int.tdiv_eq_ediv_of_nonneg h0]; omega) (by rw [Int.tdiv_eq_ediv_of_nonneg h0]; omega)
        have he : Int.tdiv n 10 = n / 10 := Int.tdiv_eq_ediv_of_nonneg h0
        have hz : (strOfNums [(wrap64 (48 + (Int.tmod n 10))) % 256]).size = 1 := rfl
        obtain ⟨t, ht⟩ := ih (Int.tdiv n 10) (strOfNums [(wrap64 (48 + (Int.tmod n 10))) % 256] ++ acc) (by omega) (by omega) (by rw [ByteArray.size_append, hz]; omega)
        rw [← hw] at ht
        exact ⟨t, Ev.step (fun k => laws_markText.l0.eq_2 n acc k) (pos hp (known rfl (pos (by rw [hz]; omega) ht)))⟩
      · exact ⟨_, Ev.step (fun k => laws_markText.l0.eq_2 n acc k) (neg hp (pos (by omega) (Ev.now _)))⟩
  obtain ⟨t, ht⟩ := key n.toNat n ⟨#[]⟩ (Nat.le_refl _) (by omega) (by rw [show (⟨#[]⟩ : ByteArray).size = 0 from rfl]; omega)
  exact ⟨t, neg (by omega) ht⟩
theorem rdE_set (xs : List S51) (i : Int) (a : S51) (h : i.toNat < xs.length) : rd_T51 (xs.set i.toNat a) i = a := by
  unfold rd_T51
  rw [List.getD_eq_getElem?_getD, List.getElem?_eq_getElem (by simpa using h), Option.getD_some, List.getElem_set_self]
theorem rdE_take {xs ys : List S51} {i : Int} {n : Nat} (h : ys.take n = xs.take n) (hi : i.toNat < n) : rd_T51 ys i = rd_T51 xs i := by
  unfold rd_T51
  rw [List.getD_eq_getElem?_getD, List.getD_eq_getElem?_getD, ← List.getElem?_take_of_lt hi, h, List.getElem?_take_of_lt hi]
theorem markE_step (xs : List S51) (c i : Int) (k : Nat) (h : i < (xs.length : Int)) (h0 : 0 ≤ i) (hc0 : 0 ≤ c) (hc : c ≤ 4611686018427387904) :
    laws_markEntryS.l0 (k + 1) xs c i = (laws_markText.f k c).bind fun t => laws_markEntryS.l0 k (xs.set i.toNat ⟨t, c + 1⟩) (c + 2) (wrap64 (i + 1)) := by
  have hl : i.toNat < xs.length := by omega
  have w1 : wrap64 (c + 1) = c + 1 := wrap_in (by omega) (by omega)
  have w2 : wrap64 (c + 1 + 1) = c + 2 := by rw [wrap_in (by omega) (by omega)]; omega
  rw [laws_markEntryS.l0.eq_2, if_pos h]
  simp only [if_pos h0, Option.bind_some, rdE_set _ _ _ hl, List.set_set, w1, w2]
theorem heldE_step (xs : List S51) (c i : Int) (k : Nat) (t : ByteArray) (h : i < (xs.length : Int)) (h0 : 0 ≤ i) (hc0 : 0 ≤ c) (hc : c ≤ 4611686018427387904) (hr : rd_T51 xs i = ⟨t, c + 1⟩) :
    laws_heldEntryS.l0 (k + 1) xs c i = (laws_markText.f k c).bind fun t' => if t.toList = t'.toList then laws_heldEntryS.l0 k xs (c + 2) (wrap64 (i + 1)) else some (-1) := by
  have w1 : wrap64 (c + 1) = c + 1 := wrap_in (by omega) (by omega)
  have w2 : wrap64 (c + 1 + 1) = c + 2 := by rw [wrap_in (by omega) (by omega)]; omega
  rw [laws_heldEntryS.l0.eq_2, if_pos h, if_pos h0, hr]
  simp only [w1, w2, if_true]
theorem markHeldE_f (l : List S51) (c : Int) (hc : 1 ≤ c) (hb : c + 2 * l.length ≤ 4611686018427387900) :
    ∃ l2, Ev (fun k => laws_markEntryS.f k l c) (c + 2 * l.length, l2) ∧ Ev (fun k => laws_heldEntryS.f k l2 c) (c + 2 * l.length) := by
  have key : ∀ (d : Nat) (xs : List S51) (c i : Int), 0 ≤ i → (xs.length : Int) - i = d → 1 ≤ c → c + 2 * d ≤ 4611686018427387900 → xs.length ≤ 4611686018427387900 →
      ∃ l2 : List S51, l2.length = xs.length ∧ l2.take i.toNat = xs.take i.toNat ∧ Ev (fun k => laws_markEntryS.l0 k xs c i) (c + 2 * d, l2) ∧ Ev (fun k => laws_heldEntryS.l0 k l2 c i) (c + 2 * d) := by
    intro d
    induction d with
    | zero =>
      intro xs c i h0 hd hc hb hx
      exact ⟨xs, rfl, rfl, Ev.step (fun k => laws_markEntryS.l0.eq_2 xs c i k) (neg (by omega) (cong (Ev.now _) (by simp))), Ev.step (fun k => laws_heldEntryS.l0.eq_2 xs c i k) (neg (by omega) (cong (Ev.now _) (by simp)))⟩
    | succ d ih =>
      intro xs c i h0 hd hc hb hx
      have hlt : i < (xs.length : Int) := by omega
      obtain ⟨t, ht⟩ := markText_f c (by omega) (by omega)
      obtain ⟨l2, e1, e2, h1, h2⟩ := ih (xs.set i.toNat ⟨t, c + 1⟩) (c + 2) (i + 1) (by omega) (by simp; omega) (by omega) (by omega) (by simpa using hx)
      have hw : wrap64 (i + 1) = i + 1 := wrap_inc h0 hlt (by omega)
      have ec : c + 2 + 2 * (d : Int) = c + 2 * ((d + 1 : Nat) : Int) := by omega
      rw [← hw, ec] at h1 h2
      have hr : rd_T51 l2 i = ⟨t, c + 1⟩ := by
        rw [rdE_take e2 (by omega)]
        exact rdE_set xs i _ (by omega)
      refine ⟨l2, by simpa using e1, ?_, Ev.step (fun k => markE_step xs c i k hlt h0 (by omega) (by omega)) (Ev.bind ht h1), Ev.step (fun k => heldE_step l2 c i k t (by rw [e1]; simpa using hlt) h0 (by omega) (by omega) hr) (Ev.bind ht (pos rfl h2))⟩
      have e3 := congrArg (List.take i.toNat) e2
      rw [List.take_take, List.take_take, show min i.toNat (i + 1).toNat = i.toNat by omega, List.take_set_of_le (Nat.le_refl _)] at e3
      exact e3
  obtain ⟨l2, -, -, h1, h2⟩ := key l.length l c 0 (by omega) (by omega) hc hb (by omega)
  exact ⟨l2, h1, h2⟩

open Go.Proofs.Ytjhjeghgeclglaa.InsFnExactEliminationOf

theorem add_s (l : List S51) (hl : l.length ≤ 1073741824) (a : ByteArray) (n : Int) : Ev (fun k => spec_l35Add.f k l a n) (insE l a n) := by
  have hj2f : ∀ (u v : List S51), u.length ≤ 1073741824 → v.length ≤ 1073741824 → Ev (fun k => spec_l35Add.j2 k a n u v false) (u ++ (if n = 0 then v else ⟨a, n⟩ :: v)) := by
    intro u v hu hv
    refine Ev.step (fun k => spec_l35Add.j2.eq_2 a n u v false k) (neg (by simp) (ite_ (fun h => pos (by omega) (cong (Ev.now _) (by rw [if_pos h]))) (fun h => pos (by omega) (known rfl (pos (by simp; omega) (cong (Ev.now _) (by rw [if_neg h]; simp)))))))
  have hj2t : ∀ (u r : List S51) (x : S51), u.length ≤ 1073741824 → r.length ≤ 1073741824 → Ev (fun k => spec_l35Add.j2 k a n u (x :: r) true) (u ++ (if wrap64 (n + x.f1) = 0 then r else ⟨a, wrap64 (n + x.f1)⟩ :: r)) := by
    intro u r x hu hr
    have e0 : rd_T51 (x :: r) 0 = x := rfl
    refine Ev.step (fun k => spec_l35Add.j2.eq_2 a n u (x :: r) true k) (pos rfl (pos (by simp <;> omega) (pos (by simp <;> omega) (known rfl ?_))))
    rw [e0, show (x :: r).drop 1 = r from rfl]
    exact ite_ (fun h => pos (by omega) (cong (Ev.now _) (by rw [if_pos h]))) (fun h => pos (by omega) (known rfl (pos (by simp; omega) (cong (Ev.now _) (by rw [if_neg h]; simp)))))
  have hj1 : ∀ (i : Int), 0 ≤ i → i ≤ l.length → (∀ x r, l.drop i.toNat = x :: r → Op.bytesLess x.f0.toList a.toList = false) → Ev (fun k => spec_l35Add.j1 k l a n i) (l.take i.toNat ++ insE (l.drop i.toNat) a n) := by
    intro i h0 h1 hx
    refine Ev.step (fun k => spec_l35Add.j1.eq_2 l a n i k) (known rfl (pos h0 (pos h1 (known rfl (pos (by simp; omega) (known rfl (known rfl ?_)))))))
    rw [List.nil_append]
    have hdl : (l.drop i.toNat).length ≤ 1073741824 := by simp; omega
    have htl : (l.take i.toNat).length ≤ 1073741824 := by simp; omega
    cases hd : l.drop i.toNat with
    | nil => exact neg (by simp) (cong (hj2f _ [] htl (by simp)) (by unfold insE; split <;> simp))
    | cons x r =>
      have hb := hx x r hd
      rw [hd, List.length_cons] at hdl
      have e0 : rd_T51 (x :: r) 0 = x := rfl
      refine pos (by simp <;> omega) (pos (by simp <;> omega) ?_)
      rw [e0]
      by_cases he : x.f0.toList = a.toList
      · rw [show (x.f0.toList == a.toList) = true from beq_iff_eq.2 he]
        exact cong (hj2t _ r x htl (by omega)) (by rw [insE_eq1 hb he])
      · rw [show (x.f0.toList == a.toList) = false from beq_eq_false_iff_ne.2 he]
        exact cong (hj2f _ (x :: r) htl (by simp; omega)) (by rw [insE_eq2 hb he])
  have key : ∀ (d : Nat) (i : Int), 0 ≤ i → (l.length : Int) - i = d → Ev (fun k => spec_l35Add.l0 k l a n i) (l.take i.toNat ++ insE (l.drop i.toNat) a n) := by
    intro d
    induction d with
    | zero =>
      intro i h0 hd
      refine Ev.step (fun k => spec_l35Add.l0.eq_2 l a n i k) (neg (by omega) (hj1 i h0 (by omega) (fun x r hh => ?_)))
      rw [List.drop_of_length_le (by omega)] at hh
      simp at hh
    | succ d ih =>
      intro i h0 hd
      have hlt : i < (l.length : Int) := by omega
      have e : l.drop i.toNat = rd_T51 l i :: l.drop (i.toNat + 1) := drop_at l z51 i.toNat (by omega)
      refine Ev.step (fun k => spec_l35Add.l0.eq_2 l a n i k) (pos hlt (pos h0 (ite_ (fun hb => ?_) (fun hb => hj1 i h0 (by omega) (fun x r hh => ?_)))))
      · have h := ih (i + 1) (by omega) (by omega)
        rw [← wrap_inc h0 hlt (by omega)] at h
        refine cong h ?_
        rw [wrap_inc h0 hlt (by omega), show (i + 1).toNat = i.toNat + 1 by omega, e]
        conv => rhs; unfold insE
        rw [if_pos hb, List.take_succ_eq_append_getElem (by omega)]
        simp only [List.append_assoc, List.singleton_append]
        unfold rd_T51
        rw [List.getD_eq_getElem?_getD, List.getElem?_eq_getElem (by omega)]
        rfl
      · rw [e] at hh
        injection hh with hh1 hh2
        rw [← hh1]
        simpa using hb
  have := key l.length 0 (by omega) (by omega)
  exact cong this (by simp)

def dealB (n : Int) (x : S81) : Bool := inB x.f0 0 (n - 1) && (inB x.f1 0 (n - 1) && (decide (x.f0 ≠ x.f1) && (inB x.f2 0 100000 && inB x.f3 0 x.f2)))
def dealsB (l : List S81) (n : Int) : Bool := inB n 0 6 && (l.all (dealB n) && decide (l.length ≤ 20))
theorem deals_iff {l : List S81} {n : Int} (h : dealsB l n = true) : (0 ≤ n ∧ n ≤ 6) ∧ l.length ≤ 20 ∧ ∀ x ∈ l, 0 ≤ x.f0 ∧ x.f0 ≤ n - 1 ∧ 0 ≤ x.f1 ∧ x.f1 ≤ n - 1 ∧ x.f0 ≠ x.f1 ∧ 0 ≤ x.f2 ∧ x.f2 ≤ 100000 ∧ 0 ≤ x.f3 ∧ x.f3 ≤ x.f2 := by
  unfold dealsB at h
  simp only [Bool.and_eq_true, inB_iff, decide_eq_true_eq, List.all_eq_true] at h
  refine ⟨h.1, h.2.2, fun x hx => ?_⟩
  have := h.2.1 x hx
  unfold dealB at this
  simp only [Bool.and_eq_true, inB_iff, decide_eq_true_eq] at this
  exact ⟨this.1.1, this.1.2, this.2.1.1, this.2.1.2, this.2.2.1, this.2.2.2.1.1, this.2.2.2.1.2, this.2.2.2.2.1, this.2.2.2.2.2⟩
theorem deals_s (l : List S81) (hl : l.length ≤ 1048576) (n : Int) : Ev (fun k => spec_AreDealings.f k l n) (dealsB l n) := by
  unfold dealsB
  refine known (in_s _ _ _) (ite_ (fun hn => ?_) (fun hn => cong (Ev.now _) (by rw [Bool.not_eq_true] at hn; rw [hn]; rfl)))
  have hn2 := inB_iff.1 hn
  have hw : wrap64 (n - 1) = n - 1 := wrap_in (by omega) (by omega)
  have key : ∀ (d : Nat) (i : Int), 0 ≤ i → (l.length : Int) - i = d → Ev (fun k => spec_AreDealings.l0 k l n i) ((l.drop i.toNat).all (dealB n) && decide (l.length ≤ 20)) := by
    intro d
    induction d with
    | zero =>
      intro i h0 hd
      refine Ev.step (fun k => spec_AreDealings.l0.eq_2 l n i k) (neg (by omega) (cong (Ev.now _) ?_))
      rw [List.drop_of_length_le (by omega)]
      simp only [List.all_nil, Bool.true_and]
      exact decide_eq_decide.2 (by omega)
    | succ d ih =>
      intro i h0 hd
      have hlt : i < (l.length : Int) := by omega
      have h := ih (i + 1) (by omega) (by omega)
      rw [show (i + 1).toNat = i.toNat + 1 by omega] at h
      rw [← wrap_inc h0 hlt (by omega)] at h
      have e : l.drop i.toNat = rd_T81 l i :: l.drop (i.toNat + 1) := drop_at l z81 i.toNat (by omega)
      rw [e, List.all_cons]
      unfold dealB
      refine Ev.step (fun k => spec_AreDealings.l0.eq_2 l n i k) (pos hlt (pos h0 ?_))
      rw [hw]
      refine known (in_s _ _ _) (ite_ (fun h1 => known (in_s _ _ _) (ite_ (fun h2 => ite_ (fun h3 => cong (Ev.now _) ?_) (fun h3 => known (in_s _ _ _) (ite_ (fun h4 => known (in_s _ _ _) (ite_ (fun h5 => cong h ?_) (fun h5 => cong (Ev.now _) ?_))) (fun h4 => cong (Ev.now _) ?_)))) (fun h2 => cong (Ev.now _) ?_))) (fun h1 => cong (Ev.now _) ?_))
      · simp [h3]
      · rw [h1, h2, decide_eq_true h3, h4, h5]
        simp only [Bool.true_and]
        rfl
      · rw [Bool.not_eq_true] at h5; rw [h5]; simp
      · rw [Bool.not_eq_true] at h4; rw [h4]; simp
      · rw [Bool.not_eq_true] at h2; rw [h2]; simp
      · rw [Bool.not_eq_true] at h1; rw [h1]; simp
  exact cong (key l.length 0 (by omega) (by omega)) (by rw [hn]; simp)
theorem deals_i (l : List S81) (hl : l.length ≤ 1048576) (n : Int) : Ev (fun k => impl_AreDealings.f k l n) (dealsB l n) := by
  unfold dealsB
  refine known (in_i _ _ _) (ite_ (fun hn => ?_) (fun hn => Ev.step (fun k => impl_AreDealings.j0.eq_2 l n true k) (pos rfl (cong (Ev.now _) (by rw [Bool.not_eq_true] at hn; rw [hn]; rfl)))))
  have hn2 := inB_iff.1 hn
  have hw : wrap64 (n - 1) = n - 1 := wrap_in (by omega) (by omega)
  by_cases hc : l.length ≤ 20
  · have key : ∀ (d : Nat) (i : Int), 0 ≤ i → (l.length : Int) - i = d → Ev (fun k => impl_AreDealings.l0 k n l (l.length : Int) i) ((l.drop i.toNat).all (dealB n)) := by
      intro d
      induction d with
      | zero =>
        intro i h0 hd
        refine Ev.step (fun k => impl_AreDealings.l0.eq_2 n l (l.length : Int) i k) (neg (by omega) (cong (Ev.now _) ?_))
        rw [List.drop_of_length_le (by omega)]
        rfl
      | succ d ih =>
        intro i h0 hd
        have hlt : i < (l.length : Int) := by omega
        have h := ih (i + 1) (by omega) (by omega)
        rw [show (i + 1).toNat = i.toNat + 1 by omega] at h
        rw [← wrap_inc h0 hlt (by omega)] at h
        have e : l.drop i.toNat = rd_T81 l i :: l.drop (i.toNat + 1) := drop_at l z81 i.toNat (by omega)
        rw [e, List.all_cons]
        unfold dealB
        refine Ev.step (fun k => impl_AreDealings.l0.eq_2 n l (l.length : Int) i k) (pos hlt (pos h0 (pos hlt ?_)))
        rw [hw]
        refine ite_ (fun h3 => cong (Ev.now _) ?_) (fun h3 => known (in_i _ _ _) (ite_ (fun h1 => known (in_i _ _ _) (ite_ (fun h2 => known (in_i _ _ _) (ite_ (fun h4 => known (in_i _ _ _) (ite_ (fun h5 => cong h ?_) (fun h5 => cong (Ev.now _) ?_))) (fun h4 => cong (Ev.now _) ?_))) (fun h2 => cong (Ev.now _) ?_))) (fun h1 => cong (Ev.now _) ?_)))
        · simp [h3]
        · rw [h1, h2, decide_eq_true h3, h4, h5]
          simp only [Bool.true_and]
          rfl
        · rw [Bool.not_eq_true] at h5; rw [h5]; simp
        · rw [Bool.not_eq_true] at h4; rw [h4]; simp
        · rw [Bool.not_eq_true] at h2; rw [h2]; simp
        · rw [Bool.not_eq_true] at h1; rw [h1]; simp
    refine Ev.step (fun k => impl_AreDealings.j0.eq_2 l n _ k) (neg (by simp; omega) (cong (key l.length 0 (by omega) (by omega)) ?_))
    rw [hn, decide_eq_true hc]
    simp
  · refine Ev.step (fun k => impl_AreDealings.j0.eq_2 l n _ k) (pos (decide_eq_true (by omega)) (cong (Ev.now _) ?_))
    rw [decide_eq_false hc]
    simp
def cSALES : ByteArray := ⟨#[83, 65, 76, 69, 83]⟩
def cCOST : ByteArray := ⟨#[67, 79, 83, 84]⟩
def cCLAIMS : ByteArray := ⟨#[67, 76, 65, 73, 77, 83]⟩
def cDEBTS : ByteArray := ⟨#[68, 69, 66, 84, 83]⟩
/-- What a dealing gives to the elimination. -/
def elimE (d : S81) : List S51 := [⟨cSALES, d.f2⟩, ⟨cCOST, -d.f2⟩, ⟨cCLAIMS, -d.f3⟩, ⟨cDEBTS, d.f3⟩]
def elims (l : List S81) : List S51 := (l.map elimE).flatten
theorem elims_len (l : List S81) : (elims l).length = 4 * l.length := by
  induction l with
  | nil => rfl
  | cons x r ih =>
    have : elims (x :: r) = elimE x ++ elims r := rfl
    rw [this, List.length_append, ih, List.length_cons]
    have : (elimE x).length = 4 := rfl
    omega
theorem elims_snoc (l : List S81) (x : S81) : elims (l ++ [x]) = elims l ++ elimE x := by simp [elims]
def SmallE (x : S51) : Prop := x.f0.size ≤ 6 ∧ -100000 ≤ x.f1 ∧ x.f1 ≤ 100000
theorem elims_small {l : List S81} {n : Int} (h : dealsB l n = true) : ∀ x ∈ elims l, SmallE x := by
  intro x hx
  obtain ⟨m, hm, hx⟩ := List.mem_flatten.1 hx
  obtain ⟨d, hd, rfl⟩ := List.mem_map.1 hm
  obtain ⟨-, -, h2⟩ := deals_iff h
  have h3 := h2 d hd
  simp only [elimE, List.mem_cons, List.not_mem_nil, or_false] at hx
  rcases hx with rfl | rfl | rfl | rfl
  · exact ⟨(by decide : cSALES.size ≤ 6), by show -100000 ≤ d.f2; omega, by show d.f2 ≤ 100000; omega⟩
  · exact ⟨(by decide : cCOST.size ≤ 6), by show -100000 ≤ -d.f2; omega, by show -d.f2 ≤ 100000; omega⟩
  · exact ⟨(by decide : cCLAIMS.size ≤ 6), by show -100000 ≤ -d.f3; omega, by show -d.f3 ≤ 100000; omega⟩
  · exact ⟨(by decide : cDEBTS.size ≤ 6), by show -100000 ≤ d.f3; omega, by show d.f3 ≤ 100000; omega⟩
theorem tot_i (l : List S51) (hl : l.length ≤ 1000000) (h : ∀ x ∈ l, x.f0.size ≤ 1000000000 ∧ -9223372036854775808 ≤ x.f1 ∧ x.f1 ≤ 9223372036854775807) : Ev (fun k => impl_totals.f k l) (addAll [] l) := pos ⟨hl, h⟩ (Ev.now _)
def elimR (l : List S81) (n : Int) : List S51 := if dealsB l n = true then addAll [] (elims l) else []
theorem elim_i (l : List S81) (hl : l.length ≤ 1048576) (n : Int) : Ev (fun k => impl_EliminationOf.f k l n) (elimR l n) := by
  refine known rfl (Ev.bind (deals_i l hl n) ?_)
  unfold elimR
  by_cases h : dealsB l n = true
  · rw [if_pos h]
    refine pos h ?_
    obtain ⟨-, h20, h2⟩ := deals_iff h
    have key : ∀ (d : Nat) (i : Int), 0 ≤ i → (l.length : Int) - i = d → Ev (fun k => impl_EliminationOf.l0 k (elims (l.take i.toNat)) l (l.length : Int) i) (addAll [] (elims l)) := by
      intro d
      induction d with
      | zero =>
        intro i h0 hd
        rw [List.take_of_length_le (by omega)]
        refine Ev.step (fun k => impl_EliminationOf.l0.eq_2 (elims l) l (l.length : Int) i k) (neg (by omega) (Ev.bind (tot_i _ (by rw [elims_len]; omega) (fun x hx => ?_)) (Ev.now _)))
        have := elims_small h x hx
        exact ⟨by have := this.1; omega, by have := this.2.1; omega, by have := this.2.2; omega⟩
      | succ d ih =>
        intro i h0 hd
        have hlt : i < (l.length : Int) := by omega
        have hm : rd_T81 l i ∈ l := getD_mem l _ _ (by omega)
        have h3 := h2 _ hm
        have h := ih (i + 1) (by omega) (by omega)
        have et : l.take (i.toNat + 1) = l.take i.toNat ++ [rd_T81 l i] := by
          rw [List.take_succ_eq_append_getElem (by omega)]
          congr 1
          unfold rd_T81
          rw [List.getD_eq_getElem?_getD, List.getElem?_eq_getElem (by omega)]
          rfl
        rw [show (i + 1).toNat = i.toNat + 1 by omega, et, elims_snoc, ← wrap_inc h0 hlt (by omega)] at h
        have w1 : wrap64 (-((rd_T81 l i).f2)) = -((rd_T81 l i).f2) := wrap_in (by omega) (by omega)
        have w2 : wrap64 (-((rd_T81 l i).f3)) = -((rd_T81 l i).f3) := wrap_in (by omega) (by omega)
        refine Ev.step (fun k => impl_EliminationOf.l0.eq_2 _ l (l.length : Int) i k) (pos hlt (pos h0 (pos hlt (known rfl ?_))))
        rw [w1, w2]
        refine pos ?_ h
        rw [elims_len, List.length_take]
        show _ + 4 < _
        omega
    exact key l.length 0 (by omega) (by omega)
  · rw [if_neg h]
    exact neg h (Ev.now _)
theorem elim_s (l : List S81) (hl : l.length ≤ 1048576) (n : Int) : Ev (fun k => spec_EliminationOf.f k l n) (elimR l n) := by
  unfold elimR
  by_cases h : dealsB l n = true
  · rw [if_pos h]
    obtain ⟨-, h20, h2⟩ := deals_iff h
    have key : ∀ (d : Nat) (i : Int), 0 ≤ i → (l.length : Int) - i = d → Ev (fun k => spec_EliminationOf.l0 k l n (addAll [] (elims (l.take i.toNat))) i) (addAll [] (elims l)) := by
      intro d
      induction d with
      | zero =>
        intro i h0 hd
        rw [List.take_of_length_le (by omega)]
        exact Ev.step (fun k => spec_EliminationOf.l0.eq_2 l n _ i k) (neg (by omega) (Ev.step (fun k => spec_EliminationOf.j1.eq_2 l n _ i false k) (neg (by simp) (Ev.now _))))
      | succ d ih =>
        intro i h0 hd
        have hlt : i < (l.length : Int) := by omega
        have hm : rd_T81 l i ∈ l := getD_mem l _ _ (by omega)
        have h3 := h2 _ hm
        have hh := ih (i + 1) (by omega) (by omega)
        have et : l.take (i.toNat + 1) = l.take i.toNat ++ [rd_T81 l i] := by
          rw [List.take_succ_eq_append_getElem (by omega)]
          congr 1
          unfold rd_T81
          rw [List.getD_eq_getElem?_getD, List.getElem?_eq_getElem (by omega)]
          rfl
        rw [show (i + 1).toNat = i.toNat + 1 by omega, et, elims_snoc, ← wrap_inc h0 hlt (by omega)] at hh
        have w1 : wrap64 (-((rd_T81 l i).f2)) = -((rd_T81 l i).f2) := wrap_in (by omega) (by omega)
        have w2 : wrap64 (-((rd_T81 l i).f3)) = -((rd_T81 l i).f3) := wrap_in (by omega) (by omega)
        have ea : addAll [] (elims (l.take i.toNat) ++ elimE (rd_T81 l i)) = insE (insE (insE (insE (addAll [] (elims (l.take i.toNat))) cSALES (rd_T81 l i).f2) cCOST (-(rd_T81 l i).f2)) cCLAIMS (-(rd_T81 l i).f3)) cDEBTS (rd_T81 l i).f3 := by
          unfold addAll
          rw [List.foldl_append]
          rfl
        rw [ea] at hh
        have hlen : (addAll [] (elims (l.take i.toNat))).length ≤ 80 := by
          have := addAll_len (elims (l.take i.toNat)) []
          rw [elims_len, List.length_take] at this
          simp at this
          omega
        have l1 := insE_len (addAll [] (elims (l.take i.toNat))) cSALES (rd_T81 l i).f2
        have l2 := insE_len (insE (addAll [] (elims (l.take i.toNat))) cSALES (rd_T81 l i).f2) cCOST (-(rd_T81 l i).f2)
        have l3 := insE_len (insE (insE (addAll [] (elims (l.take i.toNat))) cSALES (rd_T81 l i).f2) cCOST (-(rd_T81 l i).f2)) cCLAIMS (-(rd_T81 l i).f3)
        refine Ev.step (fun k => spec_EliminationOf.l0.eq_2 l n _ i k) (pos hlt (Ev.bind (deals_s l hl n) (Ev.step (fun k => spec_EliminationOf.j1.eq_2 l n _ i _ k) (pos h (pos h0 (pos hlt ?_))))))
        rw [w1, w2]
        exact Ev.bind (add_s _ (by omega) cSALES _) (Ev.bind (add_s _ (by omega) cCOST _) (Ev.bind (add_s _ (by omega) cCLAIMS _) (Ev.bind (add_s _ (by omega) cDEBTS _) hh)))
    exact key l.length 0 (by omega) (by omega)
  · rw [if_neg h]
    refine Ev.step (fun k => spec_EliminationOf.l0.eq_2 l n [] 0 k) (ite_ (fun hlt => Ev.bind (deals_s l hl n) (Ev.step (fun k => spec_EliminationOf.j1.eq_2 l n [] 0 _ k) (neg h (Ev.now _)))) (fun hlt => Ev.step (fun k => spec_EliminationOf.j1.eq_2 l n [] 0 false k) (neg (by simp) (Ev.now _))))

def cDealing (x : S85) : S81 := ⟨x.f0, x.f1, x.f2, x.f3⟩
theorem toDealing_l0 (l : List S85) (hl : l.length ≤ 2199023255552) : ∀ (d : Nat) (acc : List S81) (i : Int), acc.length = l.length → 0 ≤ i → (l.length : Int) - i = d →
    Ev (fun k => laws_toDealingS.l0 k l acc i) (acc.take i.toNat ++ (l.drop i.toNat).map cDealing) := by
  intro d
  induction d with
  | zero =>
    intro acc i ha h0 hd
    refine Ev.step (fun k => laws_toDealingS.l0.eq_2 l acc i k) (neg (by omega) (cong (Ev.now _) ?_))
    rw [List.take_of_length_le (by omega), List.drop_of_length_le (by omega)]
    simp
  | succ d ih =>
    intro acc i ha h0 hd
    have hlt : i < (l.length : Int) := by omega
    have hw : wrap64 (i + 1) = i + 1 := wrap_inc h0 hlt (by omega)
    have h := ih (acc.set i.toNat (cDealing (rd_T85 l i))) (i + 1) (by simpa using ha) (by omega) (by omega)
    rw [← hw] at h
    refine Ev.step (fun k => laws_toDealingS.l0.eq_2 l acc i k) (pos hlt (pos h0 (known rfl (pos (by omega) (cong h ?_)))))
    rw [hw, show (i + 1).toNat = i.toNat + 1 by omega, set_take _ _ _ _ (by omega), drop_at l z85 i.toNat (by omega)]
    rfl
theorem toDealing_f (l : List S85) (hl : l.length ≤ 2199023255552) : Ev (fun k => laws_toDealingS.f k l) (l.map cDealing) := by
  refine pos (by omega) (pos (by simp; omega) (cong (toDealing_l0 l hl l.length (List.replicate ((l.length : Int)).toNat z81) 0 (by simp) (by omega) (by omega)) ?_))
  simp
theorem eqDealing_f (a : List S81) (hl : a.length ≤ 140737488351232) : Ev (fun k => laws_eqDealingS.f k a a) true := by
  have key : ∀ (d : Nat) (i : Int), 0 ≤ i → (a.length : Int) - i = d → Ev (fun k => laws_eqDealingS.l0 k a a i) true := by
    intro d
    induction d with
    | zero =>
      intro i h0 hd
      exact Ev.step (fun k => laws_eqDealingS.l0.eq_2 a a i k) (neg (by omega) (Ev.now _))
    | succ d ih =>
      intro i h0 hd
      have hlt : i < (a.length : Int) := by omega
      have h := ih (i + 1) (by omega) (by omega)
      rw [← wrap_inc h0 hlt (by omega)] at h
      exact Ev.step (fun k => laws_eqDealingS.l0.eq_2 a a i k) (pos hlt (pos h0 (pos hlt (known (a := true) (by simp [laws_eqDealing.f]) (pos rfl h)))))
  exact pos rfl (key a.length 0 (by omega) (by omega))
theorem markDealing_f (l : List S81) (hl : l.length ≤ 1048576) : ∃ q l2, Ev (fun k => laws_markDealingS.f k l 1) (q, l2) ∧ 0 ≤ q := by
  have key : ∀ (d : Nat) (xs : List S81) (c i : Int), 0 ≤ i → (xs.length : Int) - i = d → 0 ≤ c → c + 4 * d ≤ 4611686018427387900 → xs.length ≤ 1048576 → ∃ q l2, Ev (fun k => laws_markDealingS.l0 k xs c i) (q, l2) ∧ 0 ≤ q := by
    intro d
    induction d with
    | zero =>
      intro xs c i h0 hd hc hb hx
      exact ⟨c, xs, Ev.step (fun k => laws_markDealingS.l0.eq_2 xs c i k) (neg (by omega) (Ev.now _)), hc⟩
    | succ d ih =>
      intro xs c i h0 hd hc hb hx
      have hlt : i < (xs.length : Int) := by omega
      have w1 : wrap64 (c + 1) = c + 1 := wrap_in (by omega) (by omega)
      have w2 : wrap64 (c + 1 + 1) = c + 1 + 1 := wrap_in (by omega) (by omega)
      have w3 : wrap64 (c + 1 + 1 + 1) = c + 1 + 1 + 1 := wrap_in (by omega) (by omega)
      have w4 : wrap64 (c + 1 + 1 + 1 + 1) = c + 1 + 1 + 1 + 1 := wrap_in (by omega) (by omega)
      have hx2 : ∀ (ys : List S81) (v : S81), (ys.set i.toNat v).length = ys.length := fun ys v => List.length_set ..
      obtain ⟨q, l2, e1, e2⟩ := ih ((((xs.set i.toNat ⟨c, (rd_T81 xs i).f1, (rd_T81 xs i).f2, (rd_T81 xs i).f3⟩).set i.toNat ⟨(rd_T81 (xs.set i.toNat ⟨c, (rd_T81 xs i).f1, (rd_T81 xs i).f2, (rd_T81 xs i).f3⟩) i).f0, c + 1, (rd_T81 (xs.set i.toNat ⟨c, (rd_T81 xs i).f1, (rd_T81 xs i).f2, (rd_T81 xs i).f3⟩) i).f2, (rd_T81 (xs.set i.toNat ⟨c, (rd_T81 xs i).f1, (rd_T81 xs i).f2, (rd_T81 xs i).f3⟩) i).f3⟩).set i.toNat ⟨_, _, c + 1 + 1, _⟩).set i.toNat ⟨_, _, _, c + 1 + 1 + 1⟩) (c + 1 + 1 + 1 + 1) (i + 1) (by omega) (by rw [hx2, hx2, hx2, hx2]; omega) (by omega) (by omega) (by rw [hx2, hx2, hx2, hx2]; exact hx)
      rw [← wrap_inc h0 hlt (by omega)] at e1
      refine ⟨q, l2, Ev.step (fun k => laws_markDealingS.l0.eq_2 xs c i k) (pos hlt (pos h0 (known rfl ?_))), e2⟩
      rw [w1, w2, w3, w4]
      exact known rfl (known rfl e1)
  exact key l.length l 1 0 (by omega) (by omega) (by omega) (by omega) hl
theorem FnExactEliminationOf (l : List S85) (g : l.length * 32 ≤ 140737488351232 ∧ ∀ x ∈ l, (Lit.int .i64 x.f0).wf = true ∧ (Lit.int .i64 x.f1).wf = true ∧ (Lit.int .i64 x.f2).wf = true ∧ (Lit.int .i64 x.f3).wf = true) (n : Int) (w : (Lit.int .i64 n).wf = true) : ∃ k, laws_FnExactEliminationOf.f k l n = some true := by
  have hg := g.1
  have hw : wrap64 (1048576 - (l.length : Int)) = 1048576 - (l.length : Int) := wrap_in (by omega) (by omega)
  refine Ev.rounds ?_
  by_cases hn : 1048576 - (l.length : Int) < 0
  · exact known (a := -1) (by unfold laws_szDealingS.f; rw [hw, if_pos hn]) (pos (by omega) (Ev.now _))
  · have hto := toDealing_f l (by omega)
    have hl : (l.map cDealing).length ≤ 1048576 := by rw [List.length_map]; omega
    have hl2 := hl
    · have hR : (elimR (l.map cDealing) n).length ≤ 80 := by
        unfold elimR
        by_cases hd : dealsB (l.map cDealing) n = true
        · rw [if_pos hd]
          have h1 := addAll_len (elims (l.map cDealing)) []
          rw [elims_len] at h1
          have h2 := (deals_iff hd).2.1
          simp at h1
          simp at h2
          omega
        · rw [if_neg hd]
          exact Nat.zero_le _
      have hs := elim_s _ hl2 n
      have hi := elim_i _ hl2 n
      have heq := eqEntry_f (elimR (l.map cDealing) n) (by omega)
      obtain ⟨q, l2, hm, hq⟩ := markDealing_f (l.map cDealing) hl
      obtain ⟨g2, h1, h2⟩ := markHeldE_f (elimR (l.map cDealing) n) 1 (by omega) (by omega)
      have hpos : ¬ (1 + 2 * ((elimR (l.map cDealing) n).length : Int)) < 0 := by omega
      refine known (a := 1048576 - (l.length : Int)) (by unfold laws_szDealingS.f; rw [hw, if_neg hn]) (neg hn (Ev.bind hto (Ev.bind hs (Ev.bind hto (Ev.bind hi (Ev.bind heq (pos rfl (Ev.bind hto (Ev.bind (eqDealing_f _ (by omega)) (pos rfl (Ev.bind hm (neg (by omega) (Ev.bind heq ?_)))))))))))))
      exact Ev.step (fun k => laws_FnExactEliminationOf.j0.eq_2 l n _ _ _ k) (neg (by simp) (Ev.bind h1 (Ev.bind h2 (neg hpos (pos rfl (Ev.bind hto (Ev.bind hi (Ev.bind heq (pos rfl (Ev.bind h2 (neg hpos (pos rfl (Ev.now _)))))))))))))

end Go.Proofs.Ytjhjeghgeclglaa.PureFnExactEliminationOf
