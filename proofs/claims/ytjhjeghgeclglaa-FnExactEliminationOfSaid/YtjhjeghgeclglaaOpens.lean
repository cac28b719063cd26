/- What a law's argument reads as, opened into the lists and structures of the print: for whole numbers, bools, strings, slices and structs of these. No condition. -/
import Derived.Test.YtjhjeghgeclglaaWWords
import Derived.SizedLaws
import Derived.Deep.Slices
import Derived.Lib.SmallJoins
namespace Go.Proofs.YtjhjeghgeclglaaOpens
open Go.ChangeShapes Go.WideShapes Go.Deep Go.Proofs.YtjhjeghgeclglaaW.PrintWords

def Opens {α : Type} (P : Program) (W : World) (T : TypeId) (d : Kd α) (good : α → Prop) : Prop :=
  ∀ (H : Type) (enc : TypeId × Value → H) (base : Nat) (spare : Nat → Bool) (held : Bool) (fuel : Nat) (cs : List Value) (x : DataW H × List MemPlace),
    DataW.trod enc P W base spare held fuel T cs = some x → (∀ n ∈ x.1.weights P T, n ≤ reachBytes) → ∃ a, d.K W a cs ∧ good a

def OpensF {α : Type} (P : Program) (W : World) (fs : List Field) (off : Nat) (d : Kd α) (good : α → Prop) : Prop :=
  ∀ (H : Type) (enc : TypeId × Value → H) (base : Nat) (spare : Nat → Bool) (held : Bool) (fuel : Nat) (cs : List Value) (xs : List (DataW H × List MemPlace)),
    cs.length = off + d.sz → (∀ (i : Nat) (f : Field), fs[i]? = some f → DataW.trod enc P W base spare held fuel f.type ((cs.drop f.offset).take (P.cellsOf f.type)) = xs[i]?) → xs.length = fs.length →
    (∀ n ∈ DataW.weightsEach P (fs.map (·.type)) (xs.map (·.1)), n ≤ reachBytes) → ∃ a, d.K W a (cs.drop off) ∧ good a

section
variable {P : Program} {W : World} {T : TypeId} {α β : Type}

theorem opens_int {k : IntKind} (hu : P.underlying T = some (.int k)) : Opens P W T (Kd.int k) (fun n => (Lit.int k n).wf = true) := by
  intro H enc base spare held fuel cs x h _
  obtain ⟨n, rfl, _, hw⟩ := DataW.trod_int hu h
  exact ⟨n, rfl, hw⟩

theorem opens_bool (hu : P.underlying T = some .bool) : Opens P W T Kd.bool (fun _ => True) := by
  intro H enc base spare held fuel cs x h _
  obtain ⟨n, rfl, _⟩ := DataW.trod_bool hu h
  exact ⟨n, rfl, trivial⟩

theorem opens_string (hu : P.underlying T = some .string) : Opens P W T Kd.string (fun s => s.size ≤ 140737488351232) := by
  intro H enc base spare held fuel cs x h hw
  obtain ⟨n, rfl, rfl, _⟩ := DataW.trod_string hu h
  refine ⟨n, rfl, ?_⟩
  have := hw n.data.toList.length (by simp [DataW.weights])
  rw [Array.length_toList] at this
  exact this

theorem opensF_one {f : Field} {off : Nat} {d : Kd α} {good : α → Prop} (ho : f.offset = off) (hc : P.cellsOf f.type = d.sz) (h : Opens P W f.type d good) : OpensF P W [f] off d good := by
  intro H enc base spare held fuel cs xs hl hx hxl hw
  obtain ⟨x, rfl⟩ : ∃ x, xs = [x] := by
    match xs, hxl with
    | [x], _ => exact ⟨x, rfl⟩
  have h1 := hx 0 f rfl
  rw [hc, ho, List.take_of_length_le (by rw [List.length_drop]; omega)] at h1
  refine h H enc base spare held fuel _ x h1 fun n hn => hw n ?_
  simp only [List.map_cons, List.map_nil, DataW.weightsEach, List.append_nil]
  exact hn

theorem opensF_cons {f : Field} {fs : List Field} {off off' : Nat} {a : Kd α} {b : Kd β} {g1 : α → Prop} {g2 : β → Prop} (ho : f.offset = off) (hc : P.cellsOf f.type = a.sz) (ho' : off + a.sz = off') (h : Opens P W f.type a g1) (hr : OpensF P W fs off' b g2) :
    OpensF P W (f :: fs) off (Kd.pair a b) (fun x => g1 x.1 ∧ g2 x.2) := by
  intro H enc base spare held fuel cs xs hl hx hxl hw
  subst ho'
  have hsz : (Kd.pair a b).sz = a.sz + b.sz := rfl
  rw [hsz] at hl
  obtain ⟨x, ys, rfl⟩ : ∃ x ys, xs = x :: ys := by
    match xs, hxl with
    | x :: ys, _ => exact ⟨x, ys, rfl⟩
  have h1 := hx 0 f rfl
  rw [hc, ho] at h1
  obtain ⟨y, hy, gy⟩ := h H enc base spare held fuel _ x h1 fun n hn => hw n (by
    simp only [List.map_cons, DataW.weightsEach]
    exact List.mem_append_left _ hn)
  obtain ⟨z, hz, gz⟩ := hr H enc base spare held fuel cs ys (by omega) (fun i f' hf' => by simpa using hx (i + 1) f' (by simpa using hf')) (by simpa using hxl) (fun n hn => hw n (by
    simp only [List.map_cons, DataW.weightsEach]
    exact List.mem_append_right _ hn))
  refine ⟨(y, z), ⟨(cs.drop off).take a.sz, cs.drop (off + a.sz), ?_, hy, hz⟩, gy, gz⟩
  rw [← List.drop_drop, List.take_append_drop]

theorem opens_struct {fs : Array Field} {d : Kd α} {good : α → Prop} (hu : P.underlying T = some (.struct fs)) (hc : P.cellsOf T = d.sz) (h : OpensF P W fs.toList 0 d good) (f : β → α) (g : α → β) (hfg : ∀ x, f (g x) = x) :
    Opens P W T (Kd.iso d f) (fun x => good (f x)) := by
  intro H enc base spare held fuel cs x hx hw
  obtain ⟨xs, n, rfl, rfl, hl, hxl, hi⟩ := DataW.trod_struct hu hx
  obtain ⟨y, hy, gy⟩ := h H enc base spare held n cs xs (by omega) (fun i f' hf' => hi i f' (by simpa using hf')) (by simpa using hxl) (fun m hm => hw m (by
    simp only [DataW.weights, hu]
    exact hm))
  exact ⟨g y, by show d.K W (f (g y)) cs; rw [hfg]; exact hy, by show good (f (g y)); rw [hfg]; exact gy⟩

theorem mem_weightsAll {H : Type} {e : TypeId} : ∀ {ds : List (DataW H)} {d : DataW H}, d ∈ ds → ∀ n ∈ d.weights P e, n ∈ DataW.weightsAll P e ds
  | d0 :: ds, d, hd, n, hn => by
    simp only [DataW.weightsAll, List.mem_append]
    rcases List.mem_cons.1 hd with rfl | hd
    · exact .inl hn
    · exact .inr (mem_weightsAll hd n hn)

theorem opens_slice [Inhabited α] {e : TypeId} {d : Kd α} {good : α → Prop} {B : Nat} (hu : P.underlying T = some (.slice e)) (hc : P.cellsOf e = d.sz) (hB : P.bytesOf e = B) (h : Opens P W e d good) :
    Opens P W T (Kd.slice e d) (fun l => l.length * B ≤ 140737488351232 ∧ ∀ x ∈ l, good x) := by
  intro H enc base spare held fuel cs x hx hw
  rcases open_slice hu hx with ⟨rfl, rfl⟩ | ⟨a, len, cap, m, n, D, Pl, rfl, hb, hl, hm, hmm, rfl, hel⟩
  · exact ⟨[], ⟨none, 0, rfl, by simp, by simp, by simp, fun h => by simp at h⟩, by simp, by simp⟩
  · have hlm : len ≤ m := by rw [hmm]; split <;> omega
    obtain ⟨F, hF⟩ := choose_lt (α := α) (p := fun i y => ∃ cs', W.cells? base (a.add (i * P.cellsOf e)) (P.cellsOf e) = some cs' ∧ d.K W y cs' ∧ good y) (n := len) (fun i hi => by
      obtain ⟨cs', h1, h2⟩ := hel i (by omega)
      obtain ⟨y, hy, gy⟩ := h H enc base spare held n cs' _ h2 (fun k hk => hw k (by
        simp only [DataW.weights, hu, List.mem_cons, List.mem_append]
        exact .inr (.inl (mem_weightsAll (List.mem_map.2 ⟨i, List.mem_range.2 hi, rfl⟩) k hk))))
      exact ⟨y, cs', h1, hy, gy⟩)
    have hlen : ((List.range len).map F).length = len := by simp
    refine ⟨(List.range len).map F, ⟨some a, cap, by rw [hlen], by rw [hlen]; exact hl, hlen.trans hlen.symm, ?_, fun _ => ⟨a, rfl, ?_⟩⟩, ?_, ?_⟩
    · rw [hlen]; simp only [maxLen] at hm; omega
    · intro j p hj
      have hjl : j < len := by
        have := (List.getElem?_eq_some_iff.1 hj).1
        rwa [hlen] at this
      obtain ⟨cs', h1, h2, _⟩ := hF j hjl
      have hp : p = F j := by
        rw [List.getElem?_map, List.getElem?_range hjl] at hj
        simpa using hj.symm
      subst hp
      obtain ⟨_, hcl, hcell⟩ := World.cells?_some h1
      refine ⟨cs', hcl.trans hc, h2, fun i u hiu => ?_⟩
      have hil : i < cs'.length := (List.getElem?_eq_some_iff.1 hiu).1
      have h3 := hcell i (by omega)
      rw [Go.Deep.add_add, hc] at h3
      rw [h3]; exact hiu
    · rw [hlen]
      have := hw ((((List.range len).map D).length + ((List.range (m - len)).map fun j => D (len + j)).length) * P.bytesOf e) (by simp [DataW.weights, hu])
      rw [hB] at this
      simp only [List.length_map, List.length_range] at this
      exact Nat.le_trans (Nat.mul_le_mul_right _ (by omega)) this
    · intro x hx
      obtain ⟨i, hi, rfl⟩ := List.mem_map.1 hx
      obtain ⟨_, _, _, g⟩ := hF i (List.mem_range.1 hi)
      exact g

theorem opens_imp {d : Kd α} {g1 g2 : α → Prop} (h : Opens P W T d g1) (hg : ∀ x, g1 x → g2 x) : Opens P W T d g2 := by
  intro H enc base spare held fuel cs x hx hw
  obtain ⟨a, ha, ga⟩ := h H enc base spare held fuel cs x hx hw
  exact ⟨a, ha, hg a ga⟩

/-- An argument that is a slice. -/
theorem open_arg_slice [Inhabited α] {H : Type} {enc : TypeId × Value → H} {base : Nat} {spare : Nat → Bool} {held : Bool} {e : TypeId} {d : Kd α} {good : List α → Prop} {a0 : Option Addr} {len cap : Nat} {dd : DataW H} {ps : List MemPlace}
    (h : Opens P W T (Kd.slice e d) good) (ht : DataW.Trod enc P W base spare held T (.slice a0 len cap) dd ps) (hw : ∀ n ∈ dd.weights P T, n ≤ reachBytes) :
    ∃ l, len = l.length ∧ l.length ≤ cap ∧ d.C W a0 l.length l ∧ good l := by
  obtain ⟨fuel, hf⟩ := ht
  obtain ⟨l, ⟨A, c, hcs, hl, hC⟩, g⟩ := h H enc base spare held fuel _ _ hf hw
  have hcs' : Value.slice a0 len cap = .slice A l.length c := by
    simpa [Value.cells] using hcs
  injection hcs' with h1 h2 h3
  subst h1; subst h2; subst h3
  exact ⟨l, rfl, hl, hC, g⟩

/-- An argument that is a struct by value. -/
theorem open_arg_struct {H : Type} {enc : TypeId × Value → H} {base b0 : Nat} {spare : Nat → Bool} {held : Bool} {r : Reach} {fs : Array Field} {d : Kd α} {good : α → Prop} {v : Value} {dd : DataW H} {ps : List MemPlace}
    (hu : P.underlying T = some (.struct fs)) (hv : Value.okWide P W r b0 T v) (h : Opens P W T d good) (ht : DataW.Trod enc P W base spare held T v dd ps) (hw : ∀ n ∈ dd.weights P T, n ≤ reachBytes) :
    ∃ x cs, v = .agg cs ∧ d.K W x cs.toList ∧ good x := by
  obtain ⟨cs, rfl, hsz⟩ := okWide_struct hu hv
  obtain ⟨fuel, hf⟩ := ht
  obtain ⟨x, hx, g⟩ := h H enc base spare held fuel _ _ hf hw
  exact ⟨x, cs, rfl, hx, g⟩

/-- The weights of the j-th argument. -/
theorem weights_at {H : Type} {ts : List TypeId} {ds : List (DataW H)} (hsz : (DataW.weightsEach P ts ds).all (· ≤ reachBytes) = true) {j : Nat} {t : TypeId} {dd : DataW H} (ht : ts[j]? = some t) (hd : ds[j]? = some dd) : ∀ n ∈ dd.weights P t, n ≤ reachBytes := by
  intro n hn
  have := List.all_eq_true.1 hsz _ (DataW.weights_mem_each ht hd n hn)
  simpa using this
end
end Go.Proofs.YtjhjeghgeclglaaOpens
