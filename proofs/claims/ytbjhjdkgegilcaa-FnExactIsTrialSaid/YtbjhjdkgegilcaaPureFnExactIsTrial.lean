/- The plain law of IsTrial: what the program computes is what the reference computes, for every list of entries. -/
import Derived.Test.YtbjhjdkgegilcaaPFnExactIsTrialx5
import Derived.Test.YtbjhjdkgegilcaaEv
namespace Go.Proofs.Ytbjhjdkgegilcaa.Pure
open Go.RowKit Go.Proofs.Ytbjhjdkgegilcaa.PFnExactIsTrial Go.Proofs.YtbjhjdkgegilcaaW.PrintWords Go.Proofs.YtbjhjdkgegilcaaW.PrintLast Go.Proofs.YtbjhjdkgegilcaaEv
theorem code_l0 : ∀ k s i, impl_IsCode.l0 k s i = spec_IsCode.l0 k s i := by
  intro k
  induction k with
  | zero => intros; rfl
  | succ k ih => intro s i; simp only [impl_IsCode.l0, spec_IsCode.l0, ih]
theorem code_f (k : Nat) (s : ByteArray) : impl_IsCode.f k s = spec_IsCode.f k s := code_l0 k s 0
theorem in_f (a b c : Int) : impl_in.f a b c = spec_l1In.f a b c := rfl
theorem in_ex (a b c : Int) : ∃ r, spec_l1In.f a b c = some r := by
  unfold spec_l1In.f
  split <;> exact ⟨_, rfl⟩
theorem code_ex (s : ByteArray) (hs : s.size ≤ 140737488351232) : ∃ b, Ev (fun k => spec_IsCode.f k s) b := by
  have key : ∀ (d : Nat) (i : Int), 0 ≤ i → (s.size : Int) - i ≤ d → ∃ b, Ev (fun k => spec_IsCode.l0 k s i) b := by
    intro d
    induction d with
    | zero =>
      intro i h0 hd
      refine ex_step (fun k => spec_IsCode.l0.eq_2 s i k) ?_
      repeat (first | exact ex_now _ | (exfalso; omega) | refine ex_ite (fun _ => ?_) (fun _ => ?_))
    | succ d ih =>
      intro i h0 hd
      refine ex_step (fun k => spec_IsCode.l0.eq_2 s i k) ?_
      refine ex_ite (fun hlt => ?_) (fun _ => ?_)
      · have hw : wrap64 (i + 1) = i + 1 := wrap_inc h0 hlt (by omega)
        have ih' := ih (i + 1) (by omega) (by omega)
        rw [hw]
        repeat (first | exact ex_now _ | exact ih' | (exfalso; omega) | refine ex_ite (fun _ => ?_) (fun _ => ?_))
      · repeat (first | exact ex_now _ | refine ex_ite (fun _ => ?_) (fun _ => ?_))
  exact key s.size 0 (by omega) (by omega)


theorem trial_same (l : List S77) (hl : l.length ≤ 5864062014634) (hg : ∀ x ∈ l, x.f0.size ≤ 140737488351232) : ∀ (d : Nat) (i acc : Int), 0 ≤ i → (l.length : Int) - i ≤ d →
    ∃ b, Ev (fun k => spec_IsTrial.l0 k l acc i) b ∧ Ev (fun k => impl_IsTrial.l0 k l acc l l.length i) b := by
  intro d
  induction d with
  | zero =>
    intro i acc h0 hd
    by_cases ha : acc = 0
    · refine ⟨decide ((l.length : Int) ≤ 12), Ev.step (fun k => spec_IsTrial.l0.eq_2 l acc i k) ?_, Ev.step (fun k => impl_IsTrial.l0.eq_2 l acc l l.length i k) ?_⟩
      · refine neg (by omega) (pos ha (Ev.now _))
      · refine neg (by omega) ?_
        by_cases h12 : (l.length : Int) ≤ 12
        · refine pos h12 (cong (Ev.now _) ?_)
          simp [ha]; omega
        · refine neg h12 (cong (Ev.now _) ?_)
          simp; omega
    · refine ⟨false, Ev.step (fun k => spec_IsTrial.l0.eq_2 l acc i k) ?_, Ev.step (fun k => impl_IsTrial.l0.eq_2 l acc l l.length i k) ?_⟩
      · refine neg (by omega) (neg ha (Ev.now _))
      · refine neg (by omega) ?_
        by_cases h12 : (l.length : Int) ≤ 12
        · refine pos h12 (cong (Ev.now _) ?_)
          simp [ha]
        · exact neg h12 (Ev.now _)
  | succ d ih =>
    intro i acc h0 hd
    by_cases hlt : i < (l.length : Int)
    case neg => exact ih i acc h0 (by omega)
    have hm : rd_T77 l i ∈ l := getD_mem l _ _ (by omega)
    obtain ⟨c, hc⟩ := code_ex _ (hg _ hm)
    have hc' : Ev (fun k => impl_IsCode.f k (rd_T77 l i).f0) c := Ev.congr (fun k => code_f k _) hc
    have hw : wrap64 (i + 1) = i + 1 := wrap_inc h0 hlt (by omega)
    obtain ⟨b, ih1, ih2⟩ := ih (i + 1) (wrap64 (acc + (rd_T77 l i).f1)) (by omega) (by omega)
    obtain ⟨q, hq⟩ := in_ex (rd_T77 l i).f1 (-1000000000) 1000000000
    have hq' : impl_in.f (rd_T77 l i).f1 (-1000000000) 1000000000 = some q := hq
    cases c with
    | false =>
      refine ⟨false, Ev.step (fun k => spec_IsTrial.l0.eq_2 l acc i k) ?_, Ev.step (fun k => impl_IsTrial.l0.eq_2 l acc l l.length i k) ?_⟩
      · exact pos hlt (pos h0 (Ev.bind hc (neg (by simp) (Ev.now _))))
      · exact pos hlt (pos h0 (pos hlt (Ev.bind hc' (neg (by simp) (Ev.now _)))))
    | true =>
      rw [← hw] at ih1 ih2
      by_cases ha : (rd_T77 l i).f1 = 0
      all_goals by_cases hi : i > 0
      all_goals cases q
      all_goals try by_cases hbl : Op.bytesLess (rd_T77 l (wrap64 (i - 1))).f0.toList (rd_T77 l i).f0.toList = true
      all_goals try have hwd : wrap64 (i - 1) = i - 1 := wrap_dec hi (by omega : i ≤ (l.length : Int)) (by omega)
      all_goals try have hw1 : 0 ≤ wrap64 (i - 1) := by omega
      all_goals try have hw2 : wrap64 (i - 1) < (l.length : Int) := by omega
      all_goals clear ih
      all_goals
        first
        | (refine ⟨false, Ev.step (fun k => spec_IsTrial.l0.eq_2 l acc i k) ?_, Ev.step (fun k => impl_IsTrial.l0.eq_2 l acc l l.length i k) ?_⟩ <;>
            (repeat (first | exact Ev.now _ | refine pos (by first | assumption | exact rfl) ?_ | refine neg (by first | assumption | simp) ?_ | refine Ev.bind hc ?_ | refine Ev.bind hc' ?_ | refine known hq ?_ | refine known hq' ?_)) <;> done)
        | (refine ⟨b, Ev.step (fun k => spec_IsTrial.l0.eq_2 l acc i k) ?_, Ev.step (fun k => impl_IsTrial.l0.eq_2 l acc l l.length i k) ?_⟩ <;>
            (repeat (first | exact ih1 | exact ih2 | exact Ev.now _ | refine pos (by first | assumption | exact rfl) ?_ | refine neg (by first | assumption | simp) ?_ | refine Ev.bind hc ?_ | refine Ev.bind hc' ?_ | refine known hq ?_ | refine known hq' ?_)) <;> done)

def cEntry (x : S75) : S77 := ⟨x.f0, x.f1⟩
theorem to_l0 (l : List S75) (hl : l.length ≤ 5864062014634) : ∀ (d : Nat) (acc : List S77) (i : Int), acc.length = l.length → 0 ≤ i → (l.length : Int) - i = d →
    Ev (fun k => laws_toEntryS.l0 k l acc i) (acc.take i.toNat ++ (l.drop i.toNat).map cEntry) := by
  intro d
  induction d with
  | zero =>
    intro acc i ha h0 hd
    refine Ev.step (fun k => laws_toEntryS.l0.eq_2 l acc i k) (neg (by omega) (cong (Ev.now _) ?_))
    rw [List.take_of_length_le (by omega), List.drop_of_length_le (by omega)]
    simp
  | succ d ih =>
    intro acc i ha h0 hd
    have hlt : i < (l.length : Int) := by omega
    have hw : wrap64 (i + 1) = i + 1 := wrap_inc h0 hlt (by omega)
    have h := ih (acc.set i.toNat (cEntry (rd_T75 l i))) (i + 1) (by simpa using ha) (by omega) (by omega)
    rw [← hw] at h
    refine Ev.step (fun k => laws_toEntryS.l0.eq_2 l acc i k) (pos hlt (pos h0 (known rfl (pos (by omega) (cong h ?_)))))
    rw [hw, show (i + 1).toNat = i.toNat + 1 by omega, set_take _ _ _ _ (by omega), drop_at l z75 i.toNat (by omega)]
    rfl
theorem to_f (l : List S75) (hl : l.length ≤ 5864062014634) : Ev (fun k => laws_toEntryS.f k l) (l.map cEntry) := by
  refine pos (by omega) (pos (by simp; omega) (cong (to_l0 l hl l.length (List.replicate ((l.length : Int)).toNat z77) 0 (by simp) (by omega) (by omega)) ?_))
  simp
theorem eq_l0 (a : List S77) (hl : a.length ≤ 5864062014634) : ∀ (d : Nat) (i : Int), 0 ≤ i → (a.length : Int) - i = d → Ev (fun k => laws_eqEntryS.l0 k a a i) true := by
  intro d
  induction d with
  | zero =>
    intro i h0 hd
    exact Ev.step (fun k => laws_eqEntryS.l0.eq_2 a a i k) (neg (by omega) (Ev.now _))
  | succ d ih =>
    intro i h0 hd
    have hlt : i < (a.length : Int) := by omega
    have hw : wrap64 (i + 1) = i + 1 := wrap_inc h0 hlt (by omega)
    have h := ih (i + 1) (by omega) (by omega)
    rw [← hw] at h
    exact Ev.step (fun k => laws_eqEntryS.l0.eq_2 a a i k) (pos hlt (pos h0 (pos hlt (known (show laws_eqEntry.f _ _ _ _ = some true by simp [laws_eqEntry.f]) (pos rfl h)))))
theorem eq_f (a : List S77) (hl : a.length ≤ 5864062014634) : Ev (fun k => laws_eqEntryS.f k a a) true := pos rfl (eq_l0 a hl a.length 0 (by omega) (by omega))
theorem sz_ex (l : List S75) (hl : l.length ≤ 5864062014634) : ∀ (left : Int), ∃ r, Ev (fun k => laws_szEntryS.f k l left) r := by
  intro left
  have key : ∀ (d : Nat) (i left : Int), 0 ≤ i → (l.length : Int) - i ≤ d → ∃ r, Ev (fun k => laws_szEntryS.l0 k l left i) r := by
    intro d
    induction d with
    | zero =>
      intro i left h0 hd
      exact ex_step (fun k => laws_szEntryS.l0.eq_2 l left i k) (ex_ite (fun _ => by omega) fun _ => ex_now _)
    | succ d ih =>
      intro i left h0 hd
      refine ex_step (fun k => laws_szEntryS.l0.eq_2 l left i k) (ex_ite (fun hlt => ex_ite (fun _ => ?_) fun _ => by omega) fun _ => ex_now _)
      have hw : wrap64 (i + 1) = i + 1 := wrap_inc h0 hlt (by omega)
      obtain ⟨q, hq⟩ : ∃ q, laws_szEntry.f (rd_T75 l i).f0 (rd_T75 l i).f1 left = some q := by
        unfold laws_szEntry.f
        split <;> exact ⟨_, rfl⟩
      refine ex_known hq (ex_ite (fun _ => ex_now _) fun _ => ?_)
      rw [hw]
      exact ih (i + 1) q (by omega) (by omega)
  exact ex_ite (fun _ => ex_now _) fun _ => key l.length 0 _ (by omega) (by omega)
theorem FnExactIsTrial (l : List S75) (g : l.length * 24 ≤ 140737488351232 ∧ ∀ x ∈ l, x.f0.size ≤ 140737488351232 ∧ (Lit.int .i64 x.f1).wf = true) : ∃ k, laws_FnExactIsTrial.f k l = some true := by
  have hl : l.length ≤ 5864062014634 := by omega
  obtain ⟨t, ht⟩ := sz_ex l hl 1048576
  have hto := to_f l hl
  have hlm : (l.map cEntry).length ≤ 5864062014634 := by simpa using hl
  obtain ⟨b, h1, h2⟩ := trial_same (l.map cEntry) hlm (by
    intro x hx
    obtain ⟨y, hy, rfl⟩ := List.mem_map.1 hx
    exact (g.2 y hy).1) (l.map cEntry).length 0 0 (by omega) (by omega)
  refine Ev.rounds (Ev.bind ht ?_)
  by_cases hneg : t < 0
  · exact pos hneg (Ev.now _)
  · exact neg hneg (Ev.bind hto (Ev.bind h1 (Ev.bind hto (Ev.bind h2 (neg (by simp) (Ev.bind hto (Ev.bind (eq_f _ hlm) (pos rfl (Ev.now _)))))))))
end Go.Proofs.Ytbjhjdkgegilcaa.Pure
