/- Small laws on 'from some number of rounds on', on wraps and on reads out of lists: plain Lean, no program in sight. No condition. -/
import Derived.Test.YtjhjeghgeclglaaWWords
import Derived.Test.YtjhjeghgeclglaaWMore
namespace Go.Proofs.YtjhjeghgeclglaaEv
open Go.RowKit Go.Proofs.YtjhjeghgeclglaaW.PrintWords
section
variable {α β : Type} {f g : Nat → Option α} {r : α}
theorem pos {c : Prop} [Decidable c] (h : c) (k : Ev f r) : Ev (fun n => if c then f n else g n) r := by
  refine Ev.congr (fun n => ?_) k
  rw [if_pos h]
theorem neg {c : Prop} [Decidable c] (h : ¬ c) (k : Ev g r) : Ev (fun n => if c then f n else g n) r := by
  refine Ev.congr (fun n => ?_) k
  rw [if_neg h]
theorem ite_ {c : Prop} [Decidable c] (h1 : c → Ev f r) (h2 : ¬ c → Ev g r) : Ev (fun n => if c then f n else g n) r := by
  by_cases h : c
  · exact pos h (h1 h)
  · exact neg h (h2 h)
theorem known {a : β} {b : Option β} {F : Nat → β → Option α} (h : b = some a) (k : Ev (fun n => F n a) r) : Ev (fun n => b.bind (F n)) r := by
  subst h
  exact k
theorem cong {r' : α} (h : Ev f r) (e : r = r') : Ev f r' := e ▸ h
theorem ex_ite {c : Prop} [Decidable c] (h1 : c → ∃ r, Ev f r) (h2 : ¬ c → ∃ r, Ev g r) : ∃ r, Ev (fun n => if c then f n else g n) r := by
  by_cases h : c
  · obtain ⟨r, hr⟩ := h1 h
    exact ⟨r, pos h hr⟩
  · obtain ⟨r, hr⟩ := h2 h
    exact ⟨r, neg h hr⟩
theorem ex_bind {F : Nat → α → Option β} (h1 : ∃ r, Ev f r) (h2 : ∀ r, Ev f r → ∃ q, Ev (fun n => F n r) q) : ∃ q, Ev (fun n => (f n).bind (F n)) q := by
  obtain ⟨r, hr⟩ := h1
  obtain ⟨q, hq⟩ := h2 r hr
  exact ⟨q, Ev.bind hr hq⟩
theorem ex_now (a : α) : ∃ r, Ev (fun _ => some a) r := ⟨a, Ev.now a⟩
theorem ex_known {a : β} {b : Option β} {F : Nat → β → Option α} (h : b = some a) (k : ∃ r, Ev (fun n => F n a) r) : ∃ r, Ev (fun n => b.bind (F n)) r := by
  subst h
  exact k
theorem ex_step (h : ∀ k, g (k + 1) = f k) (k : ∃ r, Ev f r) : ∃ r, Ev g r := by
  obtain ⟨r, hr⟩ := k
  exact ⟨r, Ev.step h hr⟩
theorem at_ (h : Ev f r) {k : Nat} {q : α} (hm : ∀ k, LeO (f k) (f (k + 1))) (hk : f k = some q) : q = r := by
  obtain ⟨K, h⟩ := h
  have h1 := h (max k K) (Nat.le_max_right _ _)
  have h2 := at_rounds hm (Nat.le_max_left k K) hk
  rw [h1] at h2
  exact (Option.some.inj h2).symm
theorem uniq {q : α} (h : Ev f r) (h' : Ev f q) : r = q := by
  obtain ⟨K, h⟩ := h
  obtain ⟨K', h'⟩ := h'
  have h1 := h (max K K') (Nat.le_max_left _ _)
  have h2 := h' (max K K') (Nat.le_max_right _ _)
  rw [h1] at h2
  exact Option.some.inj h2
end
theorem wrap_inc {i n : Int} (h0 : 0 ≤ i) (h : i < n) (hn : n ≤ 9223372036854775807) : wrap64 (i + 1) = i + 1 := by
  unfold wrap64
  omega
theorem wrap_dec {i n : Int} (h0 : 0 < i) (h : i ≤ n) (hn : n ≤ 9223372036854775807) : wrap64 (i - 1) = i - 1 := by
  unfold wrap64
  omega
theorem wrap_in {i : Int} (h0 : -9223372036854775808 ≤ i) (h : i ≤ 9223372036854775807) : wrap64 i = i := by
  unfold wrap64
  omega
theorem wrap_wf (i : Int) : (Lit.int .i64 (wrap64 i)).wf = true := wrap64_wf i
theorem wf_lo {i : Int} (h : (Lit.int .i64 i).wf = true) : -9223372036854775808 ≤ i ∧ i ≤ 9223372036854775807 := by
  simp only [Lit.wf, Bool.and_eq_true, decide_eq_true_eq] at h
  have h1 : IntKind.i64.min = -9223372036854775808 := by decide
  have h2 : IntKind.i64.max = 9223372036854775807 := by decide
  omega
theorem wf_mk {i : Int} (h0 : -9223372036854775808 ≤ i) (h1 : i ≤ 9223372036854775807) : (Lit.int .i64 i).wf = true := WalkArith.wf_i64 ⟨h0, h1⟩
theorem getD_mem {α : Type} (l : List α) (d : α) (i : Nat) (h : i < l.length) : l.getD i d ∈ l := by
  rw [List.getD_eq_getElem?_getD, List.getElem?_eq_getElem h]
  exact List.getElem_mem h
theorem toList_inj {a b : ByteArray} (h : a.toList = b.toList) : a = b := by
  have h1 : a.data.toList = b.data.toList := by rw [← ByteArray.toList_eq a, ← ByteArray.toList_eq b]; exact h
  cases a; cases b
  simpa using h1
theorem set_take {α : Type} (acc : List α) (i : Nat) (v : α) (rest : List α) (h : i < acc.length) : (acc.set i v).take (i + 1) ++ rest = acc.take i ++ v :: rest := by
  rw [List.take_succ_eq_append_getElem (by simpa using h), List.getElem_set_self, List.take_set_of_le (by omega)]
  simp
theorem drop_at {α : Type} (l : List α) (d : α) (i : Nat) (h : i < l.length) : l.drop i = l.getD i d :: l.drop (i + 1) := by
  rw [List.drop_eq_getElem_cons h, List.getD_eq_getElem?_getD, List.getElem?_eq_getElem h]
  rfl
theorem le_sum {n : Nat} : ∀ {l : List Nat}, n ∈ l → n ≤ l.sum
  | x :: r, h => by
    rw [List.sum_cons]
    rcases List.mem_cons.1 h with rfl | h
    · omega
    · have := le_sum h
      omega
end Go.Proofs.YtjhjeghgeclglaaEv
