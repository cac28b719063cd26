/- Plain laws for FnExactAllEvents (what the printed functions compute). -/
import Derived.Test.YtgllggmaiapeoaaPFnExactAllEventsx
import Derived.Test.YtgllggmaiapeoaaEv
import Derived.Test.YtgllggmaiapeoaaWkFnExactAllEvents
namespace Go.Proofs.Ytgllggmaiapeoaa.PureFnExactAllEvents
open Go.RowKit Go.Proofs.Ytgllggmaiapeoaa.PFnExactAllEvents Go.Proofs.YtgllggmaiapeoaaW.PrintWords Go.Proofs.YtgllggmaiapeoaaW.PrintLast Go.Proofs.YtgllggmaiapeoaaW.PrintMore Go.Proofs.YtgllggmaiapeoaaEv
set_option linter.unusedVariables false

def GoodEv (l : List S47) : Prop := l.length ≤ 2199023255552 ∧ ∀ x ∈ l, x.f3.size ≤ 140737488351232
def cEvent (x : S76) : S47 := ⟨x.f0, x.f1, x.f2, x.f3, x.f4, x.f5, x.f6⟩
theorem toEvent_l0 (l : List S76) (hl : l.length ≤ 2199023255552) : ∀ (d : Nat) (acc : List S47) (i : Int), acc.length = l.length → 0 ≤ i → (l.length : Int) - i = d →
    Ev (fun k => laws_toEventS.l0 k l acc i) (acc.take i.toNat ++ (l.drop i.toNat).map cEvent) := by
  intro d
  induction d with
  | zero =>
    intro acc i ha h0 hd
    refine Ev.step (fun k => laws_toEventS.l0.eq_2 l acc i k) (neg (by omega) (cong (Ev.now _) ?_))
    rw [List.take_of_length_le (by omega), List.drop_of_length_le (by omega)]
    simp
  | succ d ih =>
    intro acc i ha h0 hd
    have hlt : i < (l.length : Int) := by omega
    have hw : wrap64 (i + 1) = i + 1 := wrap_inc h0 hlt (by omega)
    have h := ih (acc.set i.toNat (cEvent (rd_T76 l i))) (i + 1) (by simpa using ha) (by omega) (by omega)
    rw [← hw] at h
    refine Ev.step (fun k => laws_toEventS.l0.eq_2 l acc i k) (pos hlt (pos h0 (known rfl (pos (by omega) (cong h ?_)))))
    rw [hw, show (i + 1).toNat = i.toNat + 1 by omega, set_take _ _ _ _ (by omega), drop_at l z76 i.toNat (by omega)]
    rfl
theorem toEvent_f (l : List S76) (hl : l.length ≤ 2199023255552) : Ev (fun k => laws_toEventS.f k l) (l.map cEvent) := by
  refine pos (by omega) (pos (by simp; omega) (cong (toEvent_l0 l hl l.length (List.replicate ((l.length : Int)).toNat z47) 0 (by simp) (by omega) (by omega)) ?_))
  simp
theorem eqEvent_f (a : List S47) (hl : a.length ≤ 140737488351232) : Ev (fun k => laws_eqEventS.f k a a) true := by
  have key : ∀ (d : Nat) (i : Int), 0 ≤ i → (a.length : Int) - i = d → Ev (fun k => laws_eqEventS.l0 k a a i) true := by
    intro d
    induction d with
    | zero =>
      intro i h0 hd
      exact Ev.step (fun k => laws_eqEventS.l0.eq_2 a a i k) (neg (by omega) (Ev.now _))
    | succ d ih =>
      intro i h0 hd
      have hlt : i < (a.length : Int) := by omega
      have h := ih (i + 1) (by omega) (by omega)
      rw [← wrap_inc h0 hlt (by omega)] at h
      exact Ev.step (fun k => laws_eqEventS.l0.eq_2 a a i k) (pos hlt (pos h0 (pos hlt (known (a := true) (by simp [laws_eqEvent.f]) (pos rfl h)))))
  exact pos rfl (key a.length 0 (by omega) (by omega))
theorem szEvent_f (l : List S76) (hl : l.length ≤ 5864062014634) (hg : ∀ x ∈ l, x.f3.size ≤ 140737488351232) (left : Int) (hlo : -1 ≤ left) (hhi : left ≤ 1048576) : ∃ r, Ev (fun k => laws_szEventS.f k l left) r ∧ -1 ≤ r ∧ r ≤ left ∧ (0 ≤ r → r + l.length ≤ left) := by
  have key : ∀ (d : Nat) (i left : Int), 0 ≤ i → (l.length : Int) - i ≤ d → -1 ≤ left → left ≤ 1048576 → ∃ r, Ev (fun k => laws_szEventS.l0 k l left i) r ∧ -1 ≤ r ∧ r ≤ left := by
    intro d
    induction d with
    | zero =>
      intro i left h0 hd h1 h2
      exact ⟨left, Ev.step (fun k => laws_szEventS.l0.eq_2 l left i k) (neg (by omega) (Ev.now _)), h1, by omega⟩
    | succ d ih =>
      intro i left h0 hd h1 h2
      by_cases hlt : i < (l.length : Int)
      · have hm : rd_T76 l i ∈ l := getD_mem l _ _ (by omega)
        have hs := hg _ hm
        have hw : wrap64 (left - ((rd_T76 l i).f3.size : Int)) = left - ((rd_T76 l i).f3.size : Int) := wrap_in (by omega) (by omega)
        by_cases hneg : left - ((rd_T76 l i).f3.size : Int) < 0
        · exact ⟨-1, Ev.step (fun k => laws_szEventS.l0.eq_2 l left i k) (pos hlt (pos h0 (known (a := -1) (by unfold laws_szEvent.f; rw [hw, if_pos hneg]) (pos (by omega) (Ev.now _))))), by omega, h1⟩
        · obtain ⟨r, hr, h3, h4⟩ := ih (i + 1) (left - ((rd_T76 l i).f3.size : Int)) (by omega) (by omega) (by omega) (by omega)
          rw [← wrap_inc h0 hlt (by omega)] at hr
          exact ⟨r, Ev.step (fun k => laws_szEventS.l0.eq_2 l left i k) (pos hlt (pos h0 (known (a := left - ((rd_T76 l i).f3.size : Int)) (by unfold laws_szEvent.f; rw [hw, if_neg hneg]) (neg hneg hr)))), h3, by omega⟩
      · exact ⟨left, Ev.step (fun k => laws_szEventS.l0.eq_2 l left i k) (neg hlt (Ev.now _)), h1, by omega⟩
  have hw : wrap64 (left - (l.length : Int)) = left - (l.length : Int) := wrap_in (by omega) (by omega)
  by_cases hneg : left - (l.length : Int) < 0
  · exact ⟨-1, pos (by rw [hw]; exact hneg) (Ev.now _), by omega, hlo, by omega⟩
  · obtain ⟨r, hr, h3, h4⟩ := key l.length 0 (left - (l.length : Int)) (by omega) (by omega) (by omega) (by omega)
    rw [← hw] at hr
    exact ⟨r, neg (by rw [hw]; exact hneg) hr, h3, by omega, fun _ => by omega⟩

def cClerk (x : S84) : S45 := ⟨x.f0.map cEvent, x.f1, x.f2⟩
theorem toClerk_l0 (l : List S84) (hl : l.length ≤ 3518437208780) (hg : ∀ x ∈ l, x.f0.length ≤ 2199023255552) : ∀ (d : Nat) (acc : List S45) (i : Int), acc.length = l.length → 0 ≤ i → (l.length : Int) - i = d →
    Ev (fun k => laws_toClerkS.l0 k l acc i) (acc.take i.toNat ++ (l.drop i.toNat).map cClerk) := by
  intro d
  induction d with
  | zero =>
    intro acc i ha h0 hd
    refine Ev.step (fun k => laws_toClerkS.l0.eq_2 l acc i k) (neg (by omega) (cong (Ev.now _) ?_))
    rw [List.take_of_length_le (by omega), List.drop_of_length_le (by omega)]
    simp
  | succ d ih =>
    intro acc i ha h0 hd
    have hlt : i < (l.length : Int) := by omega
    have hm : rd_T84 l i ∈ l := getD_mem l _ _ (by omega)
    have hw : wrap64 (i + 1) = i + 1 := wrap_inc h0 hlt (by omega)
    have h := ih (acc.set i.toNat (cClerk (rd_T84 l i))) (i + 1) (by simpa using ha) (by omega) (by omega)
    rw [← hw] at h
    refine Ev.step (fun k => laws_toClerkS.l0.eq_2 l acc i k) (pos hlt (pos h0 (Ev.bind (Ev.bind (toEvent_f _ (hg _ hm)) (Ev.now _)) (pos (by omega) (cong h ?_)))))
    rw [hw, show (i + 1).toNat = i.toNat + 1 by omega, set_take _ _ _ _ (by omega), drop_at l z84 i.toNat (by omega)]
    rfl
theorem toClerk_f (l : List S84) (hl : l.length ≤ 3518437208780) (hg : ∀ x ∈ l, x.f0.length ≤ 2199023255552) : Ev (fun k => laws_toClerkS.f k l) (l.map cClerk) := by
  refine pos (by omega) (pos (by simp; omega) (cong (toClerk_l0 l hl hg l.length (List.replicate ((l.length : Int)).toNat z45) 0 (by simp) (by omega) (by omega)) ?_))
  simp
def queuedN (c : List S45) : Nat := (c.map (fun x => x.f0.length)).sum
/-- Lists of an office of a size that the laws speak of. -/
def GoodO (j : List S47) (c : List S45) : Prop := j.length + (c.length + queuedN c) ≤ 1048576 ∧ (∀ x ∈ j, x.f3.size ≤ 140737488351232) ∧ ∀ d ∈ c, ∀ x ∈ d.f0, x.f3.size ≤ 140737488351232
theorem GoodO.row {j : List S47} {c : List S45} (h : GoodO j c) {d : S45} (hd : d ∈ c) : d.f0.length ≤ 1048576 := by
  have h1 : d.f0.length ≤ queuedN c := le_sum (List.mem_map.2 ⟨d, hd, rfl⟩)
  have := h.1
  omega
theorem toOffice_f (j : List S76) (l : List S84) (hj : j.length ≤ 2199023255552) (hl : l.length ≤ 3518437208780) (hg : ∀ x ∈ l, x.f0.length ≤ 2199023255552) : Ev (fun k => laws_toOffice.f k j l) (j.map cEvent, l.map cClerk) :=
  Ev.bind (toEvent_f j hj) (Ev.bind (toClerk_f l hl hg) (Ev.now _))
theorem goodO_of {j : List S76} {l : List S84} (hjg : ∀ x ∈ j, x.f3.size ≤ 140737488351232) (hg : ∀ d ∈ l, ∀ x ∈ d.f0, x.f3.size ≤ 140737488351232) (h : j.length + (l.length + (l.map (fun d => d.f0.length)).sum) ≤ 1048576) : GoodO (j.map cEvent) (l.map cClerk) := by
  refine ⟨?_, fun x hx => ?_, fun d hd x hx => ?_⟩
  · have e : queuedN (l.map cClerk) = (l.map (fun d => d.f0.length)).sum := by
      unfold queuedN
      rw [List.map_map]
      congr 1
      exact List.map_congr_left fun x _ => by simp [cClerk]
    rw [e]
    simpa using h
  · obtain ⟨y, hy, rfl⟩ := List.mem_map.1 hx
    exact hjg y hy
  · obtain ⟨y, hy, rfl⟩ := List.mem_map.1 hd
    obtain ⟨z, hz, rfl⟩ := List.mem_map.1 (show x ∈ y.f0.map cEvent from hx)
    exact hg y hy z hz
theorem eqClerk_f (a : List S45) (hl : a.length ≤ 140737488351232) (hg : ∀ x ∈ a, x.f0.length ≤ 140737488351232) : Ev (fun k => laws_eqClerkS.f k a a) true := by
  have key : ∀ (d : Nat) (i : Int), 0 ≤ i → (a.length : Int) - i = d → Ev (fun k => laws_eqClerkS.l0 k a a i) true := by
    intro d
    induction d with
    | zero =>
      intro i h0 hd
      exact Ev.step (fun k => laws_eqClerkS.l0.eq_2 a a i k) (neg (by omega) (Ev.now _))
    | succ d ih =>
      intro i h0 hd
      have hlt : i < (a.length : Int) := by omega
      have hm : rd_T45 a i ∈ a := getD_mem a _ _ (by omega)
      have h := ih (i + 1) (by omega) (by omega)
      rw [← wrap_inc h0 hlt (by omega)] at h
      exact Ev.step (fun k => laws_eqClerkS.l0.eq_2 a a i k) (pos hlt (pos h0 (pos hlt (Ev.bind (Ev.bind (eqEvent_f _ (hg _ hm)) (pos rfl (neg (by simp) (pos rfl (Ev.now true))))) (pos rfl h)))))
  exact pos rfl (key a.length 0 (by omega) (by omega))
theorem eqOffice_f (j : List S47) (c : List S45) (hj : j.length ≤ 140737488351232) (hl : c.length ≤ 140737488351232) (hg : ∀ x ∈ c, x.f0.length ≤ 140737488351232) : Ev (fun k => laws_eqOffice.f k j c j c) true :=
  Ev.bind (eqEvent_f j hj) (pos rfl (Ev.bind (eqClerk_f c hl hg) (pos rfl (Ev.now _))))
theorem szOffice_f (j : List S76) (l : List S84) (hj : j.length ≤ 5864062014634) (hjg : ∀ x ∈ j, x.f3.size ≤ 140737488351232) (hl : l.length ≤ 3518437208780) (hg : ∀ d ∈ l, d.f0.length ≤ 5864062014634 ∧ ∀ x ∈ d.f0, x.f3.size ≤ 140737488351232) :
    ∃ r, Ev (fun k => laws_szOffice.f k j l 1048576) r ∧ (0 ≤ r → j.length + (l.length + (l.map (fun d => d.f0.length)).sum) ≤ 1048576) := by
  have key : ∀ (d : Nat) (i left : Int), 0 ≤ i → (l.length : Int) - i = d → -1 ≤ left → left ≤ 1048576 → ∃ r, Ev (fun k => laws_szClerkS.l0 k l left i) r ∧ -1 ≤ r ∧ r ≤ left ∧ (0 ≤ r → r + (((l.drop i.toNat).map (fun d => d.f0.length)).sum : Nat) ≤ left) := by
    intro d
    induction d with
    | zero =>
      intro i left h0 hd h1 h2
      have e : l.drop i.toNat = [] := List.drop_of_length_le (by omega)
      exact ⟨left, Ev.step (fun k => laws_szClerkS.l0.eq_2 l left i k) (neg (by omega) (Ev.now _)), h1, by omega, fun _ => by simp [e]⟩
    | succ d ih =>
      intro i left h0 hd h1 h2
      have hlt : i < (l.length : Int) := by omega
      have hm : rd_T84 l i ∈ l := getD_mem l _ _ (by omega)
      have e : l.drop i.toNat = rd_T84 l i :: l.drop (i.toNat + 1) := drop_at l z84 i.toNat (by omega)
      obtain ⟨r1, e1, b1, b2, b3⟩ := szEvent_f _ (hg _ hm).1 (hg _ hm).2 left h1 h2
      by_cases hneg : r1 < 0
      · exact ⟨-1, Ev.step (fun k => laws_szClerkS.l0.eq_2 l left i k) (pos hlt (pos h0 (Ev.bind (Ev.bind e1 (pos hneg (Ev.now (-1)))) (pos (by omega) (Ev.now _))))), by omega, h1, by omega⟩
      · obtain ⟨r, hr, h3, h4, h5⟩ := ih (i + 1) r1 (by omega) (by omega) (by omega) (by omega)
        rw [← wrap_inc h0 hlt (by omega)] at hr
        refine ⟨r, Ev.step (fun k => laws_szClerkS.l0.eq_2 l left i k) (pos hlt (pos h0 (Ev.bind (Ev.bind e1 (neg hneg (Ev.now r1))) (neg hneg hr)))), h3, by omega, fun h0r => ?_⟩
        have := h5 h0r
        have := b3 (by omega)
        rw [e, List.map_cons, List.sum_cons]
        rw [show (i + 1).toNat = i.toNat + 1 by omega] at *
        omega
  obtain ⟨r1, e1, b1, b2, b3⟩ := szEvent_f j hj hjg 1048576 (by omega) (by omega)
  by_cases hn1 : r1 < 0
  · exact ⟨-1, Ev.bind e1 (pos hn1 (Ev.now _)), by omega⟩
  have hw : wrap64 (r1 - (l.length : Int)) = r1 - (l.length : Int) := wrap_in (by omega) (by omega)
  by_cases hneg : r1 - (l.length : Int) < 0
  · exact ⟨-1, Ev.bind e1 (neg hn1 (Ev.bind (a := -1) (pos (by rw [hw]; exact hneg) (Ev.now _)) (pos (by omega) (Ev.now _)))), by omega⟩
  · obtain ⟨r, hr, h3, h4, h5⟩ := key l.length 0 (r1 - (l.length : Int)) (by omega) (by omega) (by omega) (by omega)
    rw [← hw] at hr
    simp only [Int.toNat_zero, List.drop_zero] at h5
    by_cases hr0 : r < 0
    · exact ⟨-1, Ev.bind e1 (neg hn1 (Ev.bind (a := r) (neg (by rw [hw]; exact hneg) hr) (pos hr0 (Ev.now _)))), by omega⟩
    · refine ⟨r, Ev.bind e1 (neg hn1 (Ev.bind (a := r) (neg (by rw [hw]; exact hneg) hr) (neg hr0 (Ev.now _)))), fun h => ?_⟩
      have := h5 h
      have := b3 (by omega)
      omega
def allEv (j : List S47) (c : List S45) : List S47 := j ++ (c.map (fun x => x.f0)).flatten
theorem all_i (j : List S47) (c : List S45) (h : j.length + (c.length + (c.map (fun x => x.f0.length)).sum) ≤ 1048576) : Ev (fun k => impl_AllEvents.f k j c) (allEv j c) := by
  have key : ∀ (d : Nat) (acc : List S47) (i : Int), 0 ≤ i → (c.length : Int) - i = d → acc.length + ((c.drop i.toNat).map (fun x => x.f0.length)).sum ≤ 1048576 → Ev (fun k => impl_AllEvents.l0 k acc c c.length i) (acc ++ ((c.drop i.toNat).map (fun x => x.f0)).flatten) := by
    intro d
    induction d with
    | zero =>
      intro acc i h0 hd hs
      have e : c.drop i.toNat = [] := List.drop_of_length_le (by omega)
      rw [e]
      exact Ev.step (fun k => impl_AllEvents.l0.eq_2 acc c c.length i k) (neg (by omega) (cong (Ev.now _) (by simp)))
    | succ d ih =>
      intro acc i h0 hd hs
      have hlt : i < (c.length : Int) := by omega
      have e : c.drop i.toNat = rd_T45 c i :: c.drop (i.toNat + 1) := drop_at c z45 i.toNat (by omega)
      rw [e, List.map_cons, List.sum_cons] at hs
      have h := ih (acc ++ (rd_T45 c i).f0) (i + 1) (by omega) (by omega) (by rw [List.length_append, show (i + 1).toNat = i.toNat + 1 by omega]; omega)
      rw [show (i + 1).toNat = i.toNat + 1 by omega, ← wrap_inc h0 hlt (by omega)] at h
      refine Ev.step (fun k => impl_AllEvents.l0.eq_2 acc c c.length i k) (pos hlt (pos h0 (pos hlt (pos (by omega) (cong h ?_)))))
      rw [e]
      simp
  exact known rfl (pos (by simp; omega) (key c.length _ 0 (by omega) (by omega) (by simp; omega)))

theorem markText_f (n : Int) (h0 : 0 < n) (hn : n ≤ 4611686018427387904) : ∃ t, Ev (fun k => laws_markText.f k n) t := by
  have key : ∀ (d : Nat) (n : Int) (acc : ByteArray), n.toNat ≤ d → 0 ≤ n → acc.size + n ≤ 4611686018427387904 → ∃ t, Ev (fun k => laws_markText.l0 k n acc) t := by
    intro d
    induction d with
    | zero =>
      intro n acc hd h0 hs
      exact ⟨_, Ev.step (fun k => laws_markText.l0.eq_2 n acc k) (neg (by omega) (pos (by omega) (Ev.now _)))⟩
    | succ d ih =>
      intro n acc hd h0 hs
      by_cases hp : n > 0
      · have hw : wrap64 (Int.tdiv n 10) = Int.tdiv n 10 := wrap_in (by rw [Int.tdiv_eq_ediv_of_nonneg h0]; omega) (by rw [Int.tdiv_eq_ediv_of_nonneg h0]; omega)
        have he : Int.tdiv n 10 = n / 10 := Int.tdiv_eq_ediv_of_nonneg h0
        have hz : (strOfNums [(wrap64 (48 + (Int.tmod n 10))) % 256]).size = 1 := rfl
        obtain ⟨t, ht⟩ := ih (Int.tdiv n 10) (strOfNums [(wrap64 (48 + (Int.tmod n 10))) % 256] ++ acc) (by omega) (by omega) (by rw [ByteArray.size_append, hz]; omega)
        rw [← hw] at ht
        exact ⟨t, Ev.step (fun k => laws_markText.l0.eq_2 n acc k) (pos hp (known rfl (pos (by rw [hz]; omega) ht)))⟩
      · exact ⟨_, Ev.step (fun k => laws_markText.l0.eq_2 n acc k) (neg hp (pos (by omega) (Ev.now _)))⟩
  obtain ⟨t, ht⟩ := key n.toNat n ⟨#[]⟩ (Nat.le_refl _) (by omega) (by rw [show (⟨#[]⟩ : ByteArray).size = 0 from rfl]; omega)
  exact ⟨t, neg (by omega) ht⟩
theorem rd_set (xs : List S47) (i : Int) (a : S47) (h : i.toNat < xs.length) : rd_T47 (xs.set i.toNat a) i = a := by
  unfold rd_T47
  rw [List.getD_eq_getElem?_getD, List.getElem?_eq_getElem (by simpa using h), Option.getD_some, List.getElem_set_self]
theorem rd_take {xs ys : List S47} {i : Int} {n : Nat} (h : ys.take n = xs.take n) (hi : i.toNat < n) : rd_T47 ys i = rd_T47 xs i := by
  unfold rd_T47
  rw [List.getD_eq_getElem?_getD, List.getD_eq_getElem?_getD, ← List.getElem?_take_of_lt hi, h, List.getElem?_take_of_lt hi]
theorem mark_step (xs : List S47) (c i : Int) (k : Nat) (h : i < (xs.length : Int)) (h0 : 0 ≤ i) (hc0 : 0 ≤ c) (hc : c ≤ 4611686018427387904) :
    laws_markEventS.l0 (k + 1) xs c i = (laws_markText.f k (c + 3)).bind fun t => laws_markEventS.l0 k (xs.set i.toNat ⟨c, c + 1, c + 2, t, c + 4, c + 5, c + 6⟩) (c + 7) (wrap64 (i + 1)) := by
  have hl : i.toNat < xs.length := by omega
  have w1 : wrap64 (c + 1) = c + 1 := wrap_in (by omega) (by omega)
  have w2 : wrap64 (c + 1 + 1) = c + 2 := by rw [wrap_in (by omega) (by omega)]; omega
  have w3 : wrap64 (c + 2 + 1) = c + 3 := by rw [wrap_in (by omega) (by omega)]; omega
  have w4 : wrap64 (c + 3 + 1) = c + 4 := by rw [wrap_in (by omega) (by omega)]; omega
  have w5 : wrap64 (c + 4 + 1) = c + 5 := by rw [wrap_in (by omega) (by omega)]; omega
  have w6 : wrap64 (c + 5 + 1) = c + 6 := by rw [wrap_in (by omega) (by omega)]; omega
  have w7 : wrap64 (c + 6 + 1) = c + 7 := by rw [wrap_in (by omega) (by omega)]; omega
  rw [laws_markEventS.l0.eq_2, if_pos h, if_pos h0]
  simp only [Option.bind_some, rd_set _ _ _ hl, List.set_set, w1, w2, w3, w4, w5, w6, w7]
theorem held_step (xs : List S47) (c i : Int) (k : Nat) (t : ByteArray) (h : i < (xs.length : Int)) (h0 : 0 ≤ i) (hc0 : 0 ≤ c) (hc : c ≤ 4611686018427387904) (hr : rd_T47 xs i = ⟨c, c + 1, c + 2, t, c + 4, c + 5, c + 6⟩) :
    laws_heldEventS.l0 (k + 1) xs c i = (laws_markText.f k (c + 3)).bind fun t' => if t.toList = t'.toList then laws_heldEventS.l0 k xs (c + 7) (wrap64 (i + 1)) else some (-1) := by
  have w1 : wrap64 (c + 1) = c + 1 := wrap_in (by omega) (by omega)
  have w2 : wrap64 (c + 1 + 1) = c + 2 := by rw [wrap_in (by omega) (by omega)]; omega
  have w3 : wrap64 (c + 2 + 1) = c + 3 := by rw [wrap_in (by omega) (by omega)]; omega
  have w4 : wrap64 (c + 3 + 1) = c + 4 := by rw [wrap_in (by omega) (by omega)]; omega
  have w5 : wrap64 (c + 4 + 1) = c + 5 := by rw [wrap_in (by omega) (by omega)]; omega
  have w6 : wrap64 (c + 5 + 1) = c + 6 := by rw [wrap_in (by omega) (by omega)]; omega
  have w7 : wrap64 (c + 6 + 1) = c + 7 := by rw [wrap_in (by omega) (by omega)]; omega
  rw [laws_heldEventS.l0.eq_2, if_pos h, if_pos h0, hr]
  simp only [w1, w2, w3, w4, w5, w6, w7, if_true]
theorem markHeld_f (l : List S47) (c : Int) (hc : 1 ≤ c) (hb : c + 7 * l.length ≤ 4611686018427387900) :
    ∃ l2, Ev (fun k => laws_markEventS.f k l c) (c + 7 * l.length, l2) ∧ Ev (fun k => laws_heldEventS.f k l2 c) (c + 7 * l.length) := by
  have key : ∀ (d : Nat) (xs : List S47) (c i : Int), 0 ≤ i → (xs.length : Int) - i = d → 1 ≤ c → c + 7 * d ≤ 4611686018427387900 → xs.length ≤ 4611686018427387900 →
      ∃ l2 : List S47, l2.length = xs.length ∧ l2.take i.toNat = xs.take i.toNat ∧ Ev (fun k => laws_markEventS.l0 k xs c i) (c + 7 * d, l2) ∧ Ev (fun k => laws_heldEventS.l0 k l2 c i) (c + 7 * d) := by
    intro d
    induction d with
    | zero =>
      intro xs c i h0 hd hc hb hx
      exact ⟨xs, rfl, rfl, Ev.step (fun k => laws_markEventS.l0.eq_2 xs c i k) (neg (by omega) (cong (Ev.now _) (by simp))), Ev.step (fun k => laws_heldEventS.l0.eq_2 xs c i k) (neg (by omega) (cong (Ev.now _) (by simp)))⟩
    | succ d ih =>
      intro xs c i h0 hd hc hb hx
      have hlt : i < (xs.length : Int) := by omega
      obtain ⟨t, ht⟩ := markText_f (c + 3) (by omega) (by omega)
      obtain ⟨l2, e1, e2, h1, h2⟩ := ih (xs.set i.toNat ⟨c, c + 1, c + 2, t, c + 4, c + 5, c + 6⟩) (c + 7) (i + 1) (by omega) (by simp; omega) (by omega) (by omega) (by simpa using hx)
      have hw : wrap64 (i + 1) = i + 1 := wrap_inc h0 hlt (by omega)
      have ec : c + 7 + 7 * (d : Int) = c + 7 * ((d + 1 : Nat) : Int) := by omega
      rw [← hw, ec] at h1 h2
      have hr : rd_T47 l2 i = ⟨c, c + 1, c + 2, t, c + 4, c + 5, c + 6⟩ := by
        rw [rd_take e2 (by omega)]
        exact rd_set xs i _ (by omega)
      refine ⟨l2, by simpa using e1, ?_, Ev.step (fun k => mark_step xs c i k hlt h0 (by omega) (by omega)) (Ev.bind ht h1), Ev.step (fun k => held_step l2 c i k t (by rw [e1]; simpa using hlt) h0 (by omega) (by omega) hr) (Ev.bind ht (pos rfl h2))⟩
      have e3 := congrArg (List.take i.toNat) e2
      rw [List.take_take, List.take_take, show min i.toNat (i + 1).toNat = i.toNat by omega, List.take_set_of_le (Nat.le_refl _)] at e3
      exact e3
  obtain ⟨l2, -, -, h1, h2⟩ := key l.length l c 0 (by omega) (by omega) hc hb (by omega)
  exact ⟨l2, h1, h2⟩
theorem markClerk_f (c : List S45) (q : Int) (hq : 1 ≤ q) (hb : q + 2 * c.length + 7 * ((c.map (fun x => x.f0.length)).sum : Nat) ≤ 4611686018427387900) :
    ∃ q2 c2, Ev (fun k => markClerk.l0 k c q 0) (q2, c2) ∧ 1 ≤ q2 := by
  have key : ∀ (d : Nat) (xs : List S45) (q i : Int), 0 ≤ i → (xs.length : Int) - i = d → 1 ≤ q → q + 2 * d + 7 * (((xs.drop i.toNat).map (fun x => x.f0.length)).sum : Nat) ≤ 4611686018427387900 → xs.length ≤ 4611686018427387900 →
      ∃ q2 c2, Ev (fun k => markClerk.l0 k xs q i) (q2, c2) ∧ 1 ≤ q2 := by
    intro d
    induction d with
    | zero =>
      intro xs q i h0 hd hq hb hx
      exact ⟨q, xs, Ev.step (fun k => markClerk.l0.eq_2 xs q i k) (neg (by omega) (Ev.now _)), hq⟩
    | succ d ih =>
      intro xs q i h0 hd hq hb hx
      have hlt : i < (xs.length : Int) := by omega
      have e : xs.drop i.toNat = rd_T45 xs i :: xs.drop (i.toNat + 1) := drop_at xs z45 i.toNat (by omega)
      rw [e, List.map_cons, List.sum_cons] at hb
      obtain ⟨l2, h1, -⟩ := markHeld_f (rd_T45 xs i).f0 q hq (by omega)
      obtain ⟨q1, e1⟩ : ∃ q1, q1 = q + 7 * ((rd_T45 xs i).f0.length : Int) := ⟨_, rfl⟩
      rw [← e1] at h1
      have w1 : wrap64 (q1 + 1) = q1 + 1 := wrap_in (by omega) (by omega)
      have w2 : wrap64 (wrap64 (q1 + 1) + 1) = q1 + 2 := by rw [w1, wrap_in (by omega) (by omega)]; omega
      obtain ⟨q2, c2, h2, h3⟩ := ih (xs.set i.toNat ⟨l2, Int.tmod q1 3 == 0, wrap64 (q1 + 1)⟩) (q1 + 2) (i + 1) (by omega) (by simp; omega) (by omega) (by
        rw [show (i + 1).toNat = i.toNat + 1 by omega, List.drop_set_of_lt (by omega)]
        omega) (by simpa using hx)
      rw [← w2, ← wrap_inc h0 hlt (by omega)] at h2
      exact ⟨q2, c2, Ev.step (fun k => markClerk.l0.eq_2 xs q i k) (pos hlt (pos h0 (Ev.bind h1 h2))), h3⟩
  exact key c.length c q 0 (by omega) (by omega) hq (by simpa using hb) (by omega)

theorem all_s (j : List S47) (c : List S45) (h : j.length + (c.length + (c.map (fun x => x.f0.length)).sum) ≤ 1048576) : Ev (fun k => spec_AllEvents.f k j c) (allEv j c) := by
  have key : ∀ (d : Nat) (acc : List S47) (i : Int), 0 ≤ i → (c.length : Int) - i = d → acc.length + ((c.drop i.toNat).map (fun x => x.f0.length)).sum ≤ 1048576 → Ev (fun k => spec_AllEvents.l0 k acc i j c) (acc ++ ((c.drop i.toNat).map (fun x => x.f0)).flatten) := by
    intro d
    induction d with
    | zero =>
      intro acc i h0 hd hs
      have e : c.drop i.toNat = [] := List.drop_of_length_le (by omega)
      rw [e]
      exact Ev.step (fun k => spec_AllEvents.l0.eq_2 acc i j c k) (neg (by omega) (cong (Ev.now _) (by simp)))
    | succ d ih =>
      intro acc i h0 hd hs
      have hlt : i < (c.length : Int) := by omega
      have e : c.drop i.toNat = rd_T45 c i :: c.drop (i.toNat + 1) := drop_at c z45 i.toNat (by omega)
      rw [e, List.map_cons, List.sum_cons] at hs
      have h := ih (acc ++ (rd_T45 c i).f0) (i + 1) (by omega) (by omega) (by rw [List.length_append, show (i + 1).toNat = i.toNat + 1 by omega]; omega)
      rw [show (i + 1).toNat = i.toNat + 1 by omega, ← wrap_inc h0 hlt (by omega)] at h
      refine Ev.step (fun k => spec_AllEvents.l0.eq_2 acc i j c k) (pos hlt (pos h0 (pos (by omega) (cong h ?_))))
      rw [e]
      simp
  exact known rfl (pos (by simp; omega) (key c.length _ 0 (by omega) (by omega) (by simp; omega)))
theorem FnExactAllEvents (j : List S76) (l : List S84)
    (g : (j.length * 64 ≤ 140737488351232 ∧ ∀ x ∈ j, (Lit.int .i64 x.f0).wf = true ∧ (Lit.int .i64 x.f1).wf = true ∧ (Lit.int .i64 x.f2).wf = true ∧ x.f3.size ≤ 140737488351232 ∧ (Lit.int .i64 x.f4).wf = true ∧ (Lit.int .i64 x.f5).wf = true ∧ (Lit.int .i64 x.f6).wf = true) ∧
      (l.length * 40 ≤ 140737488351232 ∧ ∀ d ∈ l, (d.f0.length * 64 ≤ 140737488351232 ∧ ∀ x ∈ d.f0, (Lit.int .i64 x.f0).wf = true ∧ (Lit.int .i64 x.f1).wf = true ∧ (Lit.int .i64 x.f2).wf = true ∧ x.f3.size ≤ 140737488351232 ∧ (Lit.int .i64 x.f4).wf = true ∧ (Lit.int .i64 x.f5).wf = true ∧ (Lit.int .i64 x.f6).wf = true) ∧ True ∧ (Lit.int .i64 d.f2).wf = true)) :
    ∃ k, AllOk k j l := by
  have hj : j.length ≤ 2199023255552 := by have := g.1.1; omega
  have hjg : ∀ x ∈ j, x.f3.size ≤ 140737488351232 := fun x hx => (g.1.2 x hx).2.2.2.1
  have hl : l.length ≤ 3518437208780 := by have := g.2.1; omega
  have hlg : ∀ d ∈ l, d.f0.length ≤ 2199023255552 := fun d hd => by have := (g.2.2 d hd).1.1; omega
  have hlg2 : ∀ d ∈ l, ∀ x ∈ d.f0, x.f3.size ≤ 140737488351232 := fun d hd x hx => ((g.2.2 d hd).1.2 x hx).2.2.2.1
  obtain ⟨r, hr, hb⟩ := szOffice_f j l (by omega) hjg hl (fun d hd => ⟨by have := hlg d hd; omega, hlg2 d hd⟩)
  obtain ⟨ks, hks⟩ := Ev.rounds hr
  refine ⟨ks, r, hks, ?_⟩
  by_cases hn : r < 0
  · exact .inl hn
  · have hto := toOffice_f j l hj hl hlg
    have hgo := goodO_of hjg hlg2 (hb (by omega))
    have hB : (j.map cEvent).length + ((l.map cClerk).length + ((l.map cClerk).map (fun x => x.f0.length)).sum) ≤ 1048576 := by
      have := hb (by omega)
      simpa [cClerk, Function.comp_def] using this
    have hlen : (allEv (j.map cEvent) (l.map cClerk)).length ≤ 1048576 := by
      unfold allEv
      rw [List.length_append, List.length_flatten, List.map_map]
      simp only [Function.comp_def]
      omega
    have hrow := fun x hx => hgo.row (d := x) hx
    obtain ⟨kt, h1⟩ := Ev.rounds hto
    obtain ⟨k3, h2⟩ := Ev.rounds (all_s _ _ hB)
    obtain ⟨k4, h3⟩ := Ev.rounds (all_i _ _ hB)
    obtain ⟨k5, h4⟩ := Ev.rounds (eqEvent_f (allEv (j.map cEvent) (l.map cClerk)) (by omega))
    obtain ⟨k6, h5⟩ := Ev.rounds (eqOffice_f (j.map cEvent) (l.map cClerk) (by omega) (by omega) (fun x hx => by have := hrow x hx; omega))
    obtain ⟨j2, e1, -⟩ := markHeld_f (j.map cEvent) 1 (by omega) (by omega)
    obtain ⟨q2, c2, e2, hq2⟩ := markClerk_f (l.map cClerk) (1 + 7 * ((j.map cEvent).length : Int)) (by omega) (by omega)
    obtain ⟨g2, e3, e4⟩ := markHeld_f (allEv (j.map cEvent) (l.map cClerk)) 1 (by omega) (by omega)
    obtain ⟨k7, h7⟩ := Ev.rounds e1
    obtain ⟨k8, h8⟩ := Ev.rounds e2
    obtain ⟨k9, h9⟩ := Ev.rounds e3
    obtain ⟨k10, h10⟩ := Ev.rounds e4
    exact .inr ⟨hn, kt, k3, k4, k5, k6, k7, k8, k9, k10, _, _, _, _, _, _, _, _, _, h1, h2, h3, h4, h5, h7, h8, by omega, h9, h10, by omega⟩

end Go.Proofs.Ytgllggmaiapeoaa.PureFnExactAllEvents
