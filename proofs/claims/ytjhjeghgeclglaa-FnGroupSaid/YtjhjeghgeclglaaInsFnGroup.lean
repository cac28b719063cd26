/- Plain laws for FnGroup (what the printed functions compute). -/
import Derived.Test.YtjhjeghgeclglaaPFnGroupx0
import Derived.Test.YtjhjeghgeclglaaEv
namespace Go.Proofs.Ytjhjeghgeclglaa.InsFnGroup
open Go.RowKit Go.Proofs.Ytjhjeghgeclglaa.PFnGroup Go.Proofs.YtjhjeghgeclglaaW.PrintWords Go.Proofs.YtjhjeghgeclglaaW.PrintLast Go.Proofs.YtjhjeghgeclglaaW.PrintMore Go.Proofs.YtjhjeghgeclglaaEv
set_option linter.unusedVariables false
theorem u8_tri (a b : UInt8) : a < b ∨ a = b ∨ b < a := by
  rcases Nat.lt_trichotomy a.toNat b.toNat with h | h | h
  · exact .inl (UInt8.lt_iff_toNat_lt.2 h)
  · exact .inr (.inl (UInt8.toNat_inj.1 h))
  · exact .inr (.inr (UInt8.lt_iff_toNat_lt.2 h))
theorem bl_irrefl : ∀ x : List UInt8, Op.bytesLess x x = false
  | [] => rfl
  | a :: x => by
    have h : ¬ a < a := fun h => by have := UInt8.lt_iff_toNat_lt.1 h; omega
    simp [Op.bytesLess, h, bl_irrefl x]
theorem bl_trans : ∀ x y z : List UInt8, Op.bytesLess x y = true → Op.bytesLess y z = true → Op.bytesLess x z = true
  | _, [], _, h, _ => by simp [Op.bytesLess] at h
  | _, _ :: _, [], _, h => by simp [Op.bytesLess] at h
  | [], _ :: _, _ :: _, _, _ => by simp [Op.bytesLess]
  | a :: x, b :: y, c :: z, h1, h2 => by
    simp only [Op.bytesLess, Bool.or_eq_true, decide_eq_true_eq, Bool.and_eq_true, beq_iff_eq] at h1 h2 ⊢
    rcases h1 with h1 | ⟨rfl, h1⟩
    · rcases h2 with h2 | ⟨rfl, h2⟩
      · exact .inl (UInt8.lt_trans h1 h2)
      · exact .inl h1
    · rcases h2 with h2 | ⟨rfl, h2⟩
      · exact .inl h2
      · exact .inr ⟨rfl, bl_trans x y z h1 h2⟩
theorem bl_tri : ∀ x y : List UInt8, Op.bytesLess x y = false → x ≠ y → Op.bytesLess y x = true
  | [], [], _, h => absurd rfl h
  | [], _ :: _, h, _ => by simp [Op.bytesLess] at h
  | _ :: _, [], _, _ => by simp [Op.bytesLess]
  | a :: x, b :: y, h1, h2 => by
    simp only [Op.bytesLess, Bool.or_eq_false_iff, decide_eq_false_iff_not, Bool.and_eq_false_iff, beq_eq_false_iff_ne] at h1
    simp only [Op.bytesLess, Bool.or_eq_true, decide_eq_true_eq, Bool.and_eq_true, beq_iff_eq]
    rcases u8_tri a b with h | rfl | h
    · exact absurd h h1.1
    · refine .inr ⟨rfl, bl_tri x y ?_ (fun e => h2 (by rw [e]))⟩
      rcases h1.2 with h | h
      · exact absurd rfl h
      · exact h
    · exact .inl h
theorem bl_ne {x y : List UInt8} (h : Op.bytesLess x y = true) : x ≠ y := fun e => by rw [e, bl_irrefl] at h; simp at h
/-- l35Add: an amount into a list with ascending accounts. -/
def insE : List S51 → ByteArray → Int → List S51
  | [], a, n => if n = 0 then [] else [⟨a, n⟩]
  | x :: r, a, n => if Op.bytesLess x.f0.toList a.toList = true then x :: insE r a n else if x.f0.toList = a.toList then (if wrap64 (n + x.f1) = 0 then r else ⟨a, wrap64 (n + x.f1)⟩ :: r) else if n = 0 then x :: r else ⟨a, n⟩ :: x :: r
theorem insE_eq1 {x : S51} {r : List S51} {a : ByteArray} {n : Int} (h : Op.bytesLess x.f0.toList a.toList = false) (he : x.f0.toList = a.toList) : insE (x :: r) a n = if wrap64 (n + x.f1) = 0 then r else ⟨a, wrap64 (n + x.f1)⟩ :: r := by
  conv => lhs; unfold insE
  rw [h]
  simp only [Bool.false_eq_true, if_false]
  rw [if_pos he]
theorem insE_eq2 {x : S51} {r : List S51} {a : ByteArray} {n : Int} (h : Op.bytesLess x.f0.toList a.toList = false) (he : ¬ x.f0.toList = a.toList) : insE (x :: r) a n = if n = 0 then x :: r else ⟨a, n⟩ :: x :: r := by
  conv => lhs; unfold insE
  rw [h]
  simp only [Bool.false_eq_true, if_false]
  rw [if_neg he]
theorem insE_len : ∀ (l : List S51) (a : ByteArray) (n : Int), (insE l a n).length ≤ l.length + 1
  | [], a, n => by unfold insE; split <;> simp
  | x :: r, a, n => by
    have := insE_len r a n
    unfold insE
    split
    · simp; omega
    · split
      · split <;> simp <;> omega
      · split <;> simp
def Rng (n : Int) : Prop := -9223372036854775808 ≤ n ∧ n ≤ 9223372036854775807
theorem rng_wrap (n : Int) : Rng (wrap64 n) := by
  unfold Rng wrap64
  omega
/-- Ascending accounts, no amount 0. -/
def Can : List S51 → Prop
  | [] => True
  | x :: r => (x.f1 ≠ 0 ∧ Rng x.f1) ∧ (∀ y ∈ r, Op.bytesLess x.f0.toList y.f0.toList = true) ∧ Can r
def valE : List S51 → ByteArray → Int
  | [], _ => 0
  | x :: r, b => if x.f0.toList = b.toList then x.f1 else valE r b
theorem valE_none : ∀ (l : List S51) (b : ByteArray), (∀ y ∈ l, y.f0.toList ≠ b.toList) → valE l b = 0
  | [], _, _ => rfl
  | x :: r, b, h => by
    unfold valE
    rw [if_neg (h x (by simp))]
    exact valE_none r b (fun y hy => h y (by simp [hy]))
theorem valE_rng : ∀ {l : List S51}, Can l → ∀ b, Rng (valE l b)
  | [], _, b => ⟨by simp [valE], by simp [valE]⟩
  | x :: r, h, b => by
    unfold valE
    split
    · exact h.1.2
    · exact valE_rng h.2.2 b
theorem insE_mem : ∀ (l : List S51) (a : ByteArray) (n : Int), ∀ y ∈ insE l a n, y ∈ l ∨ y.f0.toList = a.toList
  | [], a, n, y, hy => by
    unfold insE at hy
    split at hy
    · simp at hy
    · obtain rfl := List.mem_singleton.1 hy
      exact .inr rfl
  | x :: r, a, n, y, hy => by
    unfold insE at hy
    split at hy
    · rcases List.mem_cons.1 hy with rfl | hy
      · exact .inl (by simp)
      · rcases insE_mem r a n y hy with h | h
        · exact .inl (by simp [h])
        · exact .inr h
    · split at hy
      · split at hy
        · exact .inl (by simp [hy])
        · rcases List.mem_cons.1 hy with rfl | hy
          · exact .inr rfl
          · exact .inl (by simp [hy])
      · split at hy
        · exact .inl hy
        · rcases List.mem_cons.1 hy with rfl | hy
          · exact .inr rfl
          · exact .inl hy
theorem insE_can : ∀ {l : List S51} (a : ByteArray) {n : Int}, Can l → Rng n → Can (insE l a n)
  | [], a, n, _, hn => by
    unfold insE
    split
    · trivial
    · exact ⟨⟨by assumption, hn⟩, by simp, trivial⟩
  | x :: r, a, n, h, hn => by
    unfold insE
    split
    · rename_i hb
      refine ⟨h.1, fun y hy => ?_, insE_can a h.2.2 hn⟩
      rcases insE_mem r a n y hy with hy | hy
      · exact h.2.1 y hy
      · rw [hy]; exact hb
    · rename_i hb
      split
      · rename_i he
        split
        · exact h.2.2
        · refine ⟨⟨by assumption, rng_wrap _⟩, fun y hy => ?_, h.2.2⟩
          have := h.2.1 y hy
          rw [he] at this
          exact this
      · rename_i he
        have hax : Op.bytesLess a.toList x.f0.toList = true := bl_tri _ _ (by simpa using hb) he
        split
        · exact h
        · refine ⟨⟨by assumption, hn⟩, fun y hy => ?_, h⟩
          rcases List.mem_cons.1 hy with rfl | hy
          · exact hax
          · exact bl_trans _ _ _ hax (h.2.1 y hy)
theorem insE_val : ∀ {l : List S51} (a : ByteArray) {n : Int}, Can l → Rng n → ∀ b : ByteArray, valE (insE l a n) b = if a.toList = b.toList then wrap64 (n + valE l a) else valE l b
  | [], a, n, _, hn, b => by
    have hw : wrap64 (n + 0) = n := by rw [Int.add_zero]; exact wrap_in hn.1 hn.2
    unfold insE
    split
    · rename_i h0
      subst h0
      simp only [valE]
      split
      · exact hw.symm
      · rfl
    · simp only [valE, hw]
  | x :: r, a, n, h, hn, b => by
    unfold insE
    split
    · rename_i hb
      have hne := bl_ne hb
      rw [valE, insE_val a h.2.2 hn b]
      by_cases hx : x.f0.toList = b.toList
      · rw [if_pos hx, if_neg (fun e => hne (hx.trans e.symm)), valE, if_pos hx]
      · rw [if_neg hx]
        by_cases ha : a.toList = b.toList
        · rw [if_pos ha, if_pos ha, valE, if_neg hne]
        · rw [if_neg ha, if_neg ha, valE, if_neg hx]
    · rename_i hb
      split
      · rename_i he
        have hr : valE r a = 0 := valE_none r a (fun y hy e => by
          have := bl_ne (h.2.1 y hy)
          exact this (he.trans e.symm))
        have hv : valE (x :: r) a = x.f1 := by rw [valE, if_pos he]
        rw [hv]
        split
        · rename_i h0
          by_cases ha : a.toList = b.toList
          · rw [if_pos ha, h0]
            exact valE_none r b (fun y hy e => bl_ne (h.2.1 y hy) (he.trans (ha.trans e.symm)))
          · rw [if_neg ha, valE, if_neg (fun e => ha (he.symm.trans e))]
        · by_cases ha : a.toList = b.toList
          · rw [valE, if_pos ha, if_pos ha]
          · rw [valE, if_neg ha, if_neg ha, valE, if_neg (fun e => ha (he.symm.trans e))]
      · rename_i he
        have hax : Op.bytesLess a.toList x.f0.toList = true := bl_tri _ _ (by simpa using hb) he
        have hva : valE (x :: r) a = 0 := valE_none _ a (fun y hy e => by
          rcases List.mem_cons.1 hy with rfl | hy
          · exact he e
          · exact bl_ne (bl_trans _ _ _ hax (h.2.1 y hy)) e.symm)
        rw [hva, show wrap64 (n + 0) = n from by rw [Int.add_zero]; exact wrap_in hn.1 hn.2]
        split
        · rename_i h0
          by_cases ha : a.toList = b.toList
          · rw [if_pos ha, h0]
            exact valE_none _ b (fun y hy e => by
              rcases List.mem_cons.1 hy with rfl | hy
              · exact he (e.trans ha.symm)
              · exact bl_ne (bl_trans _ _ _ hax (h.2.1 y hy)) (ha.trans e.symm))
          · rw [if_neg ha]
        · by_cases ha : a.toList = b.toList
          · simp only [valE, if_pos ha]
          · rw [if_neg ha]
            conv => lhs; rw [valE, if_neg ha]
theorem can_eq : ∀ {l m : List S51}, Can l → Can m → (∀ b, valE l b = valE m b) → l = m
  | [], [], _, _, _ => rfl
  | [], y :: s, _, hm, h => absurd (h y.f0) (by rw [valE, valE, if_pos rfl]; exact fun e => hm.1.1 e.symm)
  | x :: r, [], hl, _, h => absurd (h x.f0) (by rw [valE, valE, if_pos rfl]; exact hl.1.1)
  | x :: r, y :: s, hl, hm, h => by
    by_cases he : x.f0.toList = y.f0.toList
    · have hf : x.f1 = y.f1 := by
        have := h x.f0
        rw [valE, valE, if_pos rfl, if_pos he.symm] at this
        exact this
      have hxy : x = y := by
        cases x; cases y
        simp only at he hf
        rw [toList_inj he, hf]
      have hrs : r = s := can_eq hl.2.2 hm.2.2 (fun b => by
        by_cases hb : x.f0.toList = b.toList
        · rw [valE_none r b (fun z hz e => bl_ne (hl.2.1 z hz) (hb.trans e.symm)), valE_none s b (fun z hz e => bl_ne (hm.2.1 z hz) (he.symm.trans (hb.trans e.symm)))]
        · have := h b
          rw [valE, valE, if_neg hb, if_neg (fun e => hb (he.trans e))] at this
          exact this)
      rw [hxy, hrs]
    · rcases hbl : Op.bytesLess x.f0.toList y.f0.toList with _ | _
      · have hyx := bl_tri _ _ hbl he
        have h1 := h y.f0
        rw [valE_none (x :: r) y.f0 (fun z hz e => by
          rcases List.mem_cons.1 hz with rfl | hz
          · exact he e
          · exact bl_ne (bl_trans _ _ _ hyx (hl.2.1 z hz)) e.symm), valE, if_pos rfl] at h1
        exact absurd h1.symm hm.1.1
      · have h1 := h x.f0
        rw [valE_none (y :: s) x.f0 (fun z hz e => by
          rcases List.mem_cons.1 hz with rfl | hz
          · exact he e.symm
          · exact bl_ne (bl_trans _ _ _ hbl (hm.2.1 z hz)) e.symm), valE, if_pos rfl] at h1
        exact absurd h1 hl.1.1
def addAll (t : List S51) (es : List S51) : List S51 := es.foldl (fun t x => insE t x.f0 x.f1) t
theorem addAll_len : ∀ (es t : List S51), (addAll t es).length ≤ t.length + es.length
  | [], t => by simp [addAll]
  | x :: r, t => by
    have h1 := addAll_len r (insE t x.f0 x.f1)
    have h2 := insE_len t x.f0 x.f1
    have : addAll t (x :: r) = addAll (insE t x.f0 x.f1) r := rfl
    rw [this, List.length_cons]
    omega
theorem addAll_can : ∀ (es : List S51) {t : List S51}, Can t → (∀ x ∈ es, Rng x.f1) → Can (addAll t es)
  | [], _, h, _ => h
  | x :: r, _, h, hr => addAll_can r (insE_can x.f0 h (hr x (by simp))) (fun y hy => hr y (by simp [hy]))
/-- What the entries of an account add. -/
def sumA (b : ByteArray) : List S51 → Int
  | [] => 0
  | x :: r => (if x.f0.toList = b.toList then x.f1 else 0) + sumA b r
theorem addAll_val (b : ByteArray) : ∀ (es : List S51) {t : List S51}, Can t → (∀ x ∈ es, Rng x.f1) → valE (addAll t es) b = wrap64 (valE t b + sumA b es)
  | [], t, h, _ => by
    have := valE_rng h b
    show valE t b = wrap64 (valE t b + 0)
    rw [Int.add_zero, wrap_in this.1 this.2]
  | x :: r, t, h, hr => by
    have h1 := addAll_val b r (insE_can x.f0 h (hr x (by simp))) (fun y hy => hr y (by simp [hy]))
    show valE (addAll (insE t x.f0 x.f1) r) b = _
    rw [h1, insE_val x.f0 h (hr x (by simp)) b]
    show _ = wrap64 (valE t b + ((if x.f0.toList = b.toList then x.f1 else 0) + sumA b r))
    by_cases hb : x.f0.toList = b.toList
    · have hv : valE t x.f0 = valE t b := by
        rw [toList_inj hb]
      rw [if_pos hb, if_pos hb, hv]
      unfold wrap64
      omega
    · rw [if_neg hb, if_neg hb, Int.zero_add]

theorem sumA_app (b : ByteArray) : ∀ (l m : List S51), sumA b (l ++ m) = sumA b l + sumA b m
  | [], m => by
    show sumA b m = 0 + sumA b m
    omega
  | x :: r, m => by
    show (if x.f0.toList = b.toList then x.f1 else 0) + sumA b (r ++ m) = (if x.f0.toList = b.toList then x.f1 else 0) + sumA b r + sumA b m
    rw [sumA_app b r m]
    omega
section
open Classical
/-- The accounts, each where it is met first. -/
noncomputable def accs (l : List S51) : List ByteArray := l.foldl (fun acc x => if x.f0 ∈ acc then acc else acc ++ [x.f0]) []
theorem accs_snoc (l : List S51) (x : S51) : accs (l ++ [x]) = if x.f0 ∈ accs l then accs l else accs l ++ [x.f0] := by
  unfold accs
  rw [List.foldl_append]
  rfl
theorem accs_fold (P : List ByteArray → Prop) (h : ∀ acc x, P acc → P (if x ∈ acc then acc else acc ++ [x])) : ∀ (l : List S51) (acc : List ByteArray), P acc → P (l.foldl (fun acc x => if x.f0 ∈ acc then acc else acc ++ [x.f0]) acc)
  | [], _, h0 => h0
  | x :: r, acc, h0 => accs_fold P h r _ (h acc x.f0 h0)
theorem accs_nodup (l : List S51) : (accs l).Nodup := accs_fold (fun acc => acc.Nodup) (fun acc x h => by
  by_cases hx : x ∈ acc
  · rw [if_pos hx]; exact h
  · rw [if_neg hx, List.nodup_append]
    exact ⟨h, by simp, fun a ha b hb => by rw [List.mem_singleton.1 hb]; exact fun e => hx (e ▸ ha)⟩) l [] List.nodup_nil
theorem accs_len_fold : ∀ (l : List S51) (acc : List ByteArray), (l.foldl (fun acc x => if x.f0 ∈ acc then acc else acc ++ [x.f0]) acc).length ≤ acc.length + l.length
  | [], _ => Nat.le_refl _
  | x :: r, acc => by
    have h := accs_len_fold r (if x.f0 ∈ acc then acc else acc ++ [x.f0])
    rw [List.foldl_cons, List.length_cons]
    by_cases hx : x.f0 ∈ acc
    · rw [if_pos hx] at h ⊢; omega
    · rw [if_neg hx] at h ⊢; rw [List.length_append, List.length_singleton] at h; omega
theorem accs_len (l : List S51) : (accs l).length ≤ l.length := by
  have := accs_len_fold l []
  simpa [accs] using this
theorem accs_sub_fold (P : ByteArray → Prop) : ∀ (l : List S51) (acc : List ByteArray), (∀ x ∈ l, P x.f0) → (∀ a ∈ acc, P a) → ∀ a ∈ l.foldl (fun acc x => if x.f0 ∈ acc then acc else acc ++ [x.f0]) acc, P a
  | [], _, _, h0 => h0
  | x :: r, acc, hl, h0 => accs_sub_fold P r _ (fun y hy => hl y (List.mem_cons_of_mem _ hy)) (by
    dsimp only
    by_cases hx : x.f0 ∈ acc
    · rw [if_pos hx]; exact h0
    · rw [if_neg hx]
      intro a ha
      rcases List.mem_append.1 ha with ha | ha
      · exact h0 a ha
      · rw [List.mem_singleton.1 ha]; exact hl x List.mem_cons_self)
theorem accs_all (P : ByteArray → Prop) (l : List S51) (h : ∀ x ∈ l, P x.f0) : ∀ a ∈ accs l, P a := accs_sub_fold P l [] h (fun _ h => by cases h)
theorem accs_keep : ∀ (l : List S51) (acc : List ByteArray) (a : ByteArray), a ∈ acc → a ∈ l.foldl (fun acc x => if x.f0 ∈ acc then acc else acc ++ [x.f0]) acc
  | [], _, _, h => h
  | x :: r, acc, a, h => accs_keep r _ a (by
    dsimp only
    by_cases hx : x.f0 ∈ acc
    · rw [if_pos hx]; exact h
    · rw [if_neg hx]; exact List.mem_append_left _ h)
theorem accs_has_fold : ∀ (l : List S51) (acc : List ByteArray), ∀ x ∈ l, x.f0 ∈ l.foldl (fun acc x => if x.f0 ∈ acc then acc else acc ++ [x.f0]) acc
  | y :: r, acc, x, h => by
    rcases List.mem_cons.1 h with rfl | h
    · refine accs_keep r _ _ ?_
      dsimp only
      by_cases hx : x.f0 ∈ acc
      · rw [if_pos hx]; exact hx
      · rw [if_neg hx]; simp
    · exact accs_has_fold r _ x h
theorem accs_has (l : List S51) : ∀ x ∈ l, x.f0 ∈ accs l := accs_has_fold l []
end
theorem sumA_none (b : ByteArray) : ∀ (l : List S51), (∀ x ∈ l, x.f0 ≠ b) → sumA b l = 0
  | [], _ => rfl
  | x :: r, h => by
    show (if x.f0.toList = b.toList then x.f1 else 0) + sumA b r = 0
    rw [if_neg (fun e => h x List.mem_cons_self (toList_inj e)), sumA_none b r (fun y hy => h y (List.mem_cons_of_mem _ hy))]
    rfl
def mkS (l : List UInt8) : ByteArray := ⟨l.toArray⟩
theorem mkS_self (s : ByteArray) : mkS s.data.toList = s := rfl
theorem mkS_list (l : List UInt8) : (mkS l).data.toList = l := rfl
def leS (x y : List UInt8) : Bool := decide (x ≤ y)
theorem bl_lt : ∀ (x y : List UInt8), Op.bytesLess x y = decide (x < y)
  | [], [] => by simp [Op.bytesLess]
  | _ :: _, [] => by simp [Op.bytesLess]
  | [], _ :: _ => by simp [Op.bytesLess]
  | a :: x, b :: y => by
    rw [Op.bytesLess, bl_lt x y]
    simp only [List.cons_lt_cons_iff]
    by_cases h1 : a < b <;> by_cases h2 : a = b <;> by_cases h3 : x < y <;> simp [h1, h2, h3]
theorem leS_iff (x y : List UInt8) : leS x y = !(Op.bytesLess y x) := by
  rw [bl_lt, leS, ← decide_not]
  rfl
theorem leS_trans (x y z : List UInt8) (h1 : leS x y = true) (h2 : leS y z = true) : leS x z = true := by
  rw [leS_iff, Bool.not_eq_true'] at h1 h2 ⊢
  rcases hb : Op.bytesLess z x with _ | _
  · rfl
  · by_cases hxy : y = x
    · subst hxy; rw [hb] at h2; cases h2
    · have h3 := bl_tri _ _ h1 hxy
      rw [bl_trans _ _ _ hb h3] at h2
      cases h2
theorem leS_total (x y : List UInt8) : (leS x y || leS y x) = true := by
  rw [leS_iff, leS_iff]
  rcases h : Op.bytesLess y x with _ | _
  · rfl
  · rcases h2 : Op.bytesLess x y with _ | _
    · rfl
    · have := bl_trans _ _ _ h h2
      rw [bl_irrefl] at this
      cases this
/-- The accounts in ascending order. -/
noncomputable def srt (l : List S51) : List ByteArray := (((accs l).map (·.data.toList)).mergeSort leS).map mkS
theorem srt_len (l : List S51) : (srt l).length = (accs l).length := by simp [srt]
theorem srt_mem (l : List S51) (a : ByteArray) : a ∈ srt l ↔ a ∈ accs l := by
  unfold srt
  rw [List.mem_map]
  constructor
  · rintro ⟨x, hx, rfl⟩
    rw [List.mem_mergeSort, List.mem_map] at hx
    obtain ⟨y, hy, rfl⟩ := hx
    exact hy
  · intro h
    exact ⟨a.data.toList, by rw [List.mem_mergeSort, List.mem_map]; exact ⟨a, h, rfl⟩, rfl⟩
theorem srt_asc (l : List S51) : (srt l).Pairwise (fun a b => Op.bytesLess a.toList b.toList = true) := by
  unfold srt
  rw [List.pairwise_map]
  have h1 := List.pairwise_mergeSort leS_trans leS_total ((accs l).map (·.data.toList))
  have h2 : (((accs l).map (·.data.toList)).mergeSort leS).Nodup := by
    refine (List.mergeSort_perm _ leS).symm.nodup ?_
    have h3 := accs_nodup l
    unfold List.Nodup at h3 ⊢
    rw [List.pairwise_map]
    exact h3.imp (fun hne he => hne (congrArg mkS he))
  exact (h1.and h2).imp (fun {a b} h => by
    have h3 := h.1
    rw [leS_iff, Bool.not_eq_true'] at h3
    rw [ByteArray.toList_eq, ByteArray.toList_eq]
    exact bl_tri _ _ h3 (fun e => h.2 e.symm))
/-- What the second loop lays. -/
def outE (l : List S51) : List ByteArray → List S51
  | [] => []
  | a :: r => if wrap64 (sumA a l) = 0 then outE l r else ⟨a, wrap64 (sumA a l)⟩ :: outE l r
theorem outE_snoc (l : List S51) (a : ByteArray) : ∀ bs : List ByteArray, outE l (bs ++ [a]) = if wrap64 (sumA a l) = 0 then outE l bs else outE l bs ++ ([⟨a, wrap64 (sumA a l)⟩] : List S51)
  | [] => by
    show (if wrap64 (sumA a l) = 0 then [] else ([⟨a, wrap64 (sumA a l)⟩] : List S51)) = _
    rfl
  | b :: r => by
    have ih := outE_snoc l a r
    show (if wrap64 (sumA b l) = 0 then outE l (r ++ [a]) else ⟨b, wrap64 (sumA b l)⟩ :: outE l (r ++ [a])) = if wrap64 (sumA a l) = 0 then (if wrap64 (sumA b l) = 0 then outE l r else ⟨b, wrap64 (sumA b l)⟩ :: outE l r) else (if wrap64 (sumA b l) = 0 then outE l r else ⟨b, wrap64 (sumA b l)⟩ :: outE l r) ++ ([⟨a, wrap64 (sumA a l)⟩] : List S51)
    rw [ih]
    by_cases h1 : wrap64 (sumA a l) = 0 <;> by_cases h2 : wrap64 (sumA b l) = 0 <;> simp [h1, h2]
theorem outE_len (l : List S51) : ∀ bs : List ByteArray, (outE l bs).length ≤ bs.length
  | [] => Nat.le_refl _
  | a :: r => by
    have ih := outE_len l r
    unfold outE
    split
    · rw [List.length_cons]; omega
    · rw [List.length_cons, List.length_cons]; omega
theorem outE_mem (l : List S51) : ∀ (bs : List ByteArray), ∀ y ∈ outE l bs, y.f0 ∈ bs
  | [], _, h => by cases (show _ ∈ ([] : List S51) from h)
  | a :: r, y, h => by
    unfold outE at h
    split at h
    · exact List.mem_cons_of_mem _ (outE_mem l r y h)
    · rcases List.mem_cons.1 h with rfl | h
      · exact List.mem_cons_self
      · exact List.mem_cons_of_mem _ (outE_mem l r y h)
theorem outE_can (l : List S51) : ∀ (bs : List ByteArray), bs.Pairwise (fun a b => Op.bytesLess a.toList b.toList = true) → Can (outE l bs)
  | [], _ => trivial
  | a :: r, h => by
    have h2 := List.pairwise_cons.1 h
    have ih := outE_can l r h2.2
    unfold outE
    split
    · exact ih
    · rename_i hz
      exact ⟨⟨hz, rng_wrap _⟩, fun y hy => h2.1 _ (outE_mem l r y hy), ih⟩
theorem outE_val (l : List S51) (b : ByteArray) : ∀ (bs : List ByteArray), (b ∉ bs → wrap64 (sumA b l) = 0) → bs.Pairwise (fun a b => Op.bytesLess a.toList b.toList = true) → valE (outE l bs) b = wrap64 (sumA b l)
  | [], h, _ => (h (by simp)).symm
  | a :: r, h, hp => by
    have h2 := List.pairwise_cons.1 hp
    by_cases hab : a = b
    · subst hab
      have hn : ∀ y ∈ outE l r, y.f0.toList ≠ a.toList := fun y hy e => bl_ne (h2.1 _ (outE_mem l r y hy)) e.symm
      unfold outE
      split
      · rename_i hz
        rw [valE_none _ _ hn, hz]
      · unfold valE
        rw [if_pos rfl]
    · have ih := outE_val l b r (fun hb => h (fun hm => by
        rcases List.mem_cons.1 hm with e | hm
        · exact hab e.symm
        · exact hb hm)) h2.2
      unfold outE
      split
      · exact ih
      · unfold valE
        rw [if_neg (fun e => hab (toList_inj e))]
        exact ih
theorem tot_eq (l : List S51) (hr : ∀ x ∈ l, Rng x.f1) : outE l (srt l) = addAll [] l := by
  refine can_eq (outE_can l _ (srt_asc l)) (addAll_can l (t := []) trivial hr) (fun b => ?_)
  rw [outE_val l b _ (fun hb => ?_) (srt_asc l), addAll_val b l (t := []) trivial hr]
  · show _ = wrap64 (0 + sumA b l)
    rw [Int.zero_add]
  · rw [srt_mem] at hb
    rw [sumA_none b l (fun x hx e => hb (e ▸ accs_has l x hx))]
    exact wrap_in (by omega) (by omega)

end Go.Proofs.Ytjhjeghgeclglaa.InsFnGroup
