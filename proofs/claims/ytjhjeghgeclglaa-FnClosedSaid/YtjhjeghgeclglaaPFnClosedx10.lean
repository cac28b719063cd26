-- THIN: printed by the kit's print, then mended and its indentation halved by programs of this session.
import Derived.WalkLawsBesides
import Derived.Test.YtjhjeghgeclglaaPFnClosedx0
namespace Go.Proofs.Ytjhjeghgeclglaa.PFnClosed
open Go.RowKit Go.Proofs.YtjhjeghgeclglaaW.PrintWords Go.Proofs.YtjhjeghgeclglaaW.PrintLast Go.Proofs.YtjhjeghgeclglaaW.PrintMore
attribute [local go_sem] max2_int min2_int max_two min_two max_three min_three max_four min_four   -- for this text's walks alone
set_option linter.unusedVariables false
set_option linter.unusedSimpArgs false

/-! ### spec_l35Add: function 59 -/
mutual
def spec_l35Add.j1 : Nat → List (S51) → ByteArray → Int → Int → Option ((List (S51)))
 | 0, _, _, _, _ => none
 | k + 1, x0, x1, x2, x7 => (some (([] : List (S51)) : List (S51))).bind fun y422 => (if 0 ≤ x7 then (if x7 ≤ (x0.length : Int) then ((some (x0.take (x7 : Int).toNat : List (S51))).bind fun y425 => (if y422.length + y425.length < 5864062014805 then ((some (y422 ++ y425 : List (S51))).bind fun y429 => ((some (x0.drop (x7 : Int).toNat : List (S51))).bind fun y432 => (if (y432.length : Int) > 0 then (if 0 < (y432.length : Int) then (spec_l35Add.j2 k x1 x2 y429 y432 (((rd_T51 y432 0).f0).toList == x1.toList)) else (none)) else (spec_l35Add.j2 k x1 x2 y429 y432 false)))) else (none))) else (none)) else (none))
def spec_l35Add.j2 : Nat → ByteArray → Int → List (S51) → List (S51) → Bool → Option ((List (S51)))
 | 0, _, _, _, _, _ => none
 | k + 1, x1, x2, x8, x9, x43 => if x43 = true then (if 0 < (x9.length : Int) then (if 1 ≤ (x9.length : Int) then ((some (x9.drop 1 : List (S51))).bind fun y438 => (if (wrap64 (x2 + ((rd_T51 x9 0).f1))) = 0 then (if x8.length + y438.length < 5864062014805 then (some (x8 ++ y438)) else (none)) else (if x8.length < 5864062014805 then ((some (x8 ++ [(⟨x1, wrap64 (x2 + ((rd_T51 x9 0).f1))⟩ : S51)] : List (S51))).bind fun y445 => (if y445.length + y438.length < 5864062014805 then (some (y445 ++ y438)) else (none))) else (none)))) else (none)) else (none)) else (if x2 = 0 then (if x8.length + x9.length < 5864062014805 then (some (x8 ++ x9)) else (none)) else (if x8.length < 5864062014805 then ((some (x8 ++ [(⟨x1, x2⟩ : S51)] : List (S51))).bind fun y454 => (if y454.length + x9.length < 5864062014805 then (some (y454 ++ x9)) else (none))) else (none)))
def spec_l35Add.l0 : Nat → List (S51) → ByteArray → Int → Int → Option ((List (S51)))
 | 0, _, _, _, _ => none
 | k + 1, x0, x1, x2, x7 => if x7 < (x0.length : Int) then (if 0 ≤ x7 then (if (Op.bytesLess (((rd_T51 x0 x7).f0).toList) x1.toList) = true then (spec_l35Add.l0 k x0 x1 x2 (wrap64 (x7 + 1))) else (spec_l35Add.j1 k x0 x1 x2 x7)) else (none)) else (spec_l35Add.j1 k x0 x1 x2 x7)
end
def spec_l35Add.f (k : Nat) (l0 : List (S51)) (a1 : ByteArray) (a2 : Int) : Option ((List (S51))) := spec_l35Add.l0 k l0 a1 a2 0
theorem spec_l35Add.mono_l : ∀ k, (∀ y0 y1 y2 y3, LeO (spec_l35Add.j1 k y0 y1 y2 y3) (spec_l35Add.j1 (k + 1) y0 y1 y2 y3)) ∧ (∀ y0 y1 y2 y3 y4, LeO (spec_l35Add.j2 k y0 y1 y2 y3 y4) (spec_l35Add.j2 (k + 1) y0 y1 y2 y3 y4)) ∧ (∀ y0 y1 y2 y3, LeO (spec_l35Add.l0 k y0 y1 y2 y3) (spec_l35Add.l0 (k + 1) y0 y1 y2 y3))
 | 0 => ⟨fun _ _ _ _ r h => by simp [spec_l35Add.j1] at h, fun _ _ _ _ _ r h => by simp [spec_l35Add.j2] at h, fun _ _ _ _ r h => by simp [spec_l35Add.l0] at h⟩
 | k + 1 => by
  obtain ⟨ih0, ih1, ih2⟩ := spec_l35Add.mono_l k
  refine ⟨?_, ?_, ?_⟩
  ·intro y0 y1 y2 y3
   unfold spec_l35Add.j1
   repeat' first
   | (with_reducible exact ih0 _ _ _ _)
   | (with_reducible exact ih1 _ _ _ _ _)
   | (with_reducible exact ih2 _ _ _ _)
   | (with_reducible exact LeO.refl _)
   | (with_reducible exact LeO.none _)
   | (with_reducible refine LeO.ite ?_ ?_)
   | (with_reducible refine LeO.bind ?_ (fun _ => ?_))
   | exact ih0 _ _ _ _
   | exact ih1 _ _ _ _ _
   | exact ih2 _ _ _ _
   | exact LeO.none _
   | refine LeO.ite ?_ ?_
   | refine LeO.bind ?_ (fun _ => ?_)
  ·intro y0 y1 y2 y3 y4
   unfold spec_l35Add.j2
   repeat' first
   | (with_reducible exact ih0 _ _ _ _)
   | (with_reducible exact ih1 _ _ _ _ _)
   | (with_reducible exact ih2 _ _ _ _)
   | (with_reducible exact LeO.refl _)
   | (with_reducible exact LeO.none _)
   | (with_reducible refine LeO.ite ?_ ?_)
   | (with_reducible refine LeO.bind ?_ (fun _ => ?_))
   | exact ih0 _ _ _ _
   | exact ih1 _ _ _ _ _
   | exact ih2 _ _ _ _
   | exact LeO.none _
   | refine LeO.ite ?_ ?_
   | refine LeO.bind ?_ (fun _ => ?_)
  ·intro y0 y1 y2 y3
   unfold spec_l35Add.l0
   repeat' first
   | (with_reducible exact ih0 _ _ _ _)
   | (with_reducible exact ih1 _ _ _ _ _)
   | (with_reducible exact ih2 _ _ _ _)
   | (with_reducible exact LeO.refl _)
   | (with_reducible exact LeO.none _)
   | (with_reducible refine LeO.ite ?_ ?_)
   | (with_reducible refine LeO.bind ?_ (fun _ => ?_))
   | exact ih0 _ _ _ _
   | exact ih1 _ _ _ _ _
   | exact ih2 _ _ _ _
   | exact LeO.none _
   | refine LeO.ite ?_ ?_
   | refine LeO.bind ?_ (fun _ => ?_)
theorem spec_l35Add.mono : ∀ a0 a1 a2 k, LeO (spec_l35Add.f k a0 a1 a2) (spec_l35Add.f (k + 1) a0 a1 a2) := by
 intro a0 a1 a2 k
 obtain ⟨ih0, ih1, ih2⟩ := spec_l35Add.mono_l k
 unfold spec_l35Add.f
 repeat' first
   | (with_reducible exact ih0 _ _ _ _)
   | (with_reducible exact ih1 _ _ _ _ _)
   | (with_reducible exact ih2 _ _ _ _)
   | (with_reducible exact LeO.refl _)
   | (with_reducible exact LeO.none _)
   | (with_reducible refine LeO.ite ?_ ?_)
   | (with_reducible refine LeO.bind ?_ (fun _ => ?_))
   | exact ih0 _ _ _ _
   | exact ih1 _ _ _ _ _
   | exact ih2 _ _ _ _
   | exact LeO.none _
   | refine LeO.ite ?_ ?_
   | refine LeO.bind ?_ (fun _ => ?_)
set_option maxHeartbeats 8000000 in
set_option maxRecDepth 100000 in
theorem spec_l35Add.calls (k : Nat) (A0 : Option Addr) (c0 : Nat) (l0 : List (S51)) (a1 : ByteArray) (a2 : Int) (r : List (S51)) (w : World) (hr0 : Kd.C k51 w A0 l0.length l0) (hc0 : l0.length ≤ c0) (h : spec_l35Add.f k l0 a1 a2 = some r) :
  Calls Try.prog 59 #[.slice A0 l0.length c0, .string a1, .int .i64 a2] w fun e w' => ∃ v0_ : Value, e = .returned (v0_) ∧ Kd.R k51 51 w' w.heap.size (fun _ => True) v0_ r ∧ Below w.heap.size w w' := by
 have hu51 := Try.underlying51
 have HR0 := Aside0.mk hr0
 have HC0 := Aside0.mk hc0
 clear hr0 hc0
 have HB := Aside0.mk (Below.refl w.heap.size w)
 have H : (spec_l35Add.l0 k l0 a1 a2 0) = some r := h
 clear h
 have HC4 := Aside0.mk H
 clear H
 go_enter Try.func59, Try.ntmps59
 go_upto_block 0 with (fail)
 go_cut [7] (fun v7 wc => ∃ (kq : Nat) (x7_3 : Int), v7 = .int .i64 x7_3 ∧ Aside0 (spec_l35Add.j1 kq l0 a1 a2 x7_3 = some r) ∧ Aside0 (kq ≤ k) ∧ Aside0 (Below w.heap.size w wc))
 case first =>
  have H := HC4.out
  clear HC4
  have H' := Aside0.mk H
  clear H
  go_wp2
  go_loopg [7] k (fun kq v7 w' => ∃ (x7_1 : Int), v7 = .int .i64 x7_1 ∧ Aside0 (spec_l35Add.l0 kq l0 a1 a2 x7_1 = some r) ∧ Aside0 (kq ≤ k) ∧ Aside0 (Below w.heap.size w w'))
  case atStart => exact ⟨(0), (by first | rfl | (simp; done) | (simp [*]; done)), H', ⟨Nat.le_refl _⟩, ⟨by repeat (first | (with_reducible first | exact HB.out | apply below_alloc | apply pw_below_drewN | apply below_drew1) | exact HB.out)⟩⟩
  case round =>
   clear H'
   try clear p2
   obtain ⟨x7_1, rfl, HA, HK1, HB⟩ := hrel
   cases gk with
   | zero => exact absurd HA.out (by simp [spec_l35Add.l0])
   | succ k1 =>
    have H := HA.out
    clear HA
    simp only [spec_l35Add.l0] at H
    by_cases c5 : x7_1 < (l0.length : Int)
    ·rw [if_pos c5] at H
     have c5b0 : decide (x7_1 < (l0.length : Int)) = true := decide_eq_true c5
     clear c5
     (first | rw [c5b0] | (simp only [i64_w, i32_w]; rw [c5b0]) | skip)
     by_cases c6 : 0 ≤ x7_1
     ·rw [if_pos c6] at H
      have c6b0 : decide (0 ≤ x7_1) = true := decide_eq_true c6
      clear c6
      by_cases c7 : (Op.bytesLess (((rd_T51 l0 x7_1).f0).toList) a1.toList) = true
      ·rw [if_pos c7] at H
       have c7b0 : (Op.bytesLess (((rd_T51 l0 x7_1).f0).toList) a1.toList) = true := c7
       clear c7
       have H' := Aside0.mk H
       clear H
       have p421 : 0 ≤ (x7_1 : Int) := of_decide_eq_true (by first | (with_reducible assumption) | assumption)
       have q421 : x7_1 < (l0.length : Int) := of_decide_eq_true (by first | (with_reducible assumption) | assumption)
       obtain ⟨ad421, e421, hx421_0, hx421_1⟩ := at_T51 HR0.out x7_1 p421 q421
       cases e421
       replace hx421_0 := (HB.out.cell (World.block_lt_of_cell? w _ hx421_0)).trans hx421_0
       replace hx421_1 := (HB.out.cell (World.block_lt_of_cell? w _ hx421_1)).trans hx421_1
       replace p421 := eq_true p421
       replace q421 := eq_true q421
       go_wp2
       go_roundg k1
       case measure => have := HK1.out; omega
       case rel => exact ⟨(wrap64 (x7_1 + 1)), (by first | rfl | (simp; done) | (simp [*]; done)), H', ⟨by have := HK1.out; omega⟩, ⟨by repeat (first | (with_reducible first | exact HB.out | apply below_alloc | apply pw_below_drewN | apply below_drew1) | exact HB.out)⟩⟩
      ·rw [if_neg c7] at H
       have c7b0 : (Op.bytesLess (((rd_T51 l0 x7_1).f0).toList) a1.toList) = false := by simpa using c7
       clear c7
       have H' := Aside0.mk H
       clear H
       have p421 : 0 ≤ (x7_1 : Int) := of_decide_eq_true (by first | (with_reducible assumption) | assumption)
       have q421 : x7_1 < (l0.length : Int) := of_decide_eq_true (by first | (with_reducible assumption) | assumption)
       obtain ⟨ad421, e421, hx421_0, hx421_1⟩ := at_T51 HR0.out x7_1 p421 q421
       cases e421
       replace hx421_0 := (HB.out.cell (World.block_lt_of_cell? w _ hx421_0)).trans hx421_0
       replace hx421_1 := (HB.out.cell (World.block_lt_of_cell? w _ hx421_1)).trans hx421_1
       replace p421 := eq_true p421
       replace q421 := eq_true q421
       go_wp2
       go_meet
       case rel => exact ⟨_, (x7_1), (by first | rfl | (simp; done) | (simp [*]; done)), H', ⟨by have := HK1.out; first | omega | exact Nat.le_refl _⟩, ⟨by repeat (first | (with_reducible first | exact HB.out | apply below_alloc | apply pw_below_drewN | apply below_drew1) | exact HB.out)⟩⟩
     ·rw [if_neg c6] at H
      exact absurd H (by simp)
    ·rw [if_neg c5] at H
     have c5b0 : decide (x7_1 < (l0.length : Int)) = false := decide_eq_false c5
     clear c5
     (first | rw [c5b0] | (simp only [i64_w, i32_w]; rw [c5b0]) | skip)
     have H' := Aside0.mk H
     clear H
     go_wp2
     go_meet
     case rel => exact ⟨_, (x7_1), (by first | rfl | (simp; done) | (simp [*]; done)), H', ⟨by have := HK1.out; first | omega | exact Nat.le_refl _⟩, ⟨by repeat (first | (with_reducible first | exact HB.out | apply below_alloc | apply pw_below_drewN | apply below_drew1) | exact HB.out)⟩⟩
 case rest =>
  clear HC4
  try clear p2
  try clear p4
  try clear q4
  try clear hx4
  try clear c5
  try clear c5b0
  try clear c6
  try clear c6b0
  try clear p6
  try clear c7
  try clear c7b0
  try clear hx421_0
  try clear hx421_1
  try clear p2
  try clear p421
  try clear q421
  obtain ⟨kq, x7_3, rfl, HA, HJ3, HB⟩ := hcut
  cases kq with
  | zero => exact absurd HA.out (by simp [spec_l35Add.j1])
  | succ kj3 =>
   have H := HA.out
   clear HA
   simp only [spec_l35Add.j1] at H
   obtain ⟨y422, hy422⟩ : ∃ y_ : List (S51), y_ = (([] : List (S51))) := ⟨_, rfl⟩
   replace H : (if 0 ≤ x7_3 then (if x7_3 ≤ (l0.length : Int) then ((some (l0.take (x7_3 : Int).toNat : List (S51))).bind fun y425 => (if y422.length + y425.length < 5864062014805 then ((some (y422 ++ y425 : List (S51))).bind fun y429 => ((some (l0.drop (x7_3 : Int).toNat : List (S51))).bind fun y432 => (if (y432.length : Int) > 0 then (if 0 < (y432.length : Int) then (spec_l35Add.j2 kj3 a1 a2 y429 y432 (((rd_T51 y432 0).f0).toList == a1.toList)) else (none)) else (spec_l35Add.j2 kj3 a1 a2 y429 y432 false)))) else (none))) else (none)) else (none)) = some r := by first | (rw [hy422]; with_reducible exact H) | (have H2_ := (Option.bind_some _ _).symm.trans H; rw [hy422]; with_reducible exact H2_) | (have H2_ := (Option.bind_some _ _).symm.trans H; with_reducible exact H2_) | with_reducible exact H | (rw [hy422]; exact H) | exact H
   have Ny422 := Aside0.mk hy422
   clear hy422
   by_cases c8 : 0 ≤ x7_3
   ·rw [if_pos c8] at H
    have c8b0 := eq_true c8
    have c8b1 : decide (0 ≤ x7_3) = true := decide_eq_true c8
    clear c8
    by_cases c9 : x7_3 ≤ (l0.length : Int)
    ·rw [if_pos c9] at H
     have c9b0 := eq_true c9
     have c9b1 : decide (x7_3 ≤ (l0.length : Int)) = true := decide_eq_true c9
     clear c9
     obtain ⟨y425, hy425⟩ : ∃ y_ : List (S51), y_ = (l0.take (x7_3 : Int).toNat) := ⟨_, rfl⟩
     replace H : (if y422.length + y425.length < 5864062014805 then ((some (y422 ++ y425 : List (S51))).bind fun y429 => ((some (l0.drop (x7_3 : Int).toNat : List (S51))).bind fun y432 => (if (y432.length : Int) > 0 then (if 0 < (y432.length : Int) then (spec_l35Add.j2 kj3 a1 a2 y429 y432 (((rd_T51 y432 0).f0).toList == a1.toList)) else (none)) else (spec_l35Add.j2 kj3 a1 a2 y429 y432 false)))) else (none)) = some r := by first | (rw [hy425]; with_reducible exact H) | (have H2_ := (Option.bind_some _ _).symm.trans H; rw [hy425]; with_reducible exact H2_) | (have H2_ := (Option.bind_some _ _).symm.trans H; with_reducible exact H2_) | with_reducible exact H | (rw [hy425]; exact H) | exact H
     have Ny425 := Aside0.mk hy425
     clear hy425
     by_cases c10 : y422.length + y425.length < 5864062014805
     ·rw [if_pos c10] at H
      have LMc10 := Aside0.mk c10
      clear c10
      obtain ⟨y429, hy429⟩ : ∃ y_ : List (S51), y_ = (y422 ++ y425) := ⟨_, rfl⟩
      replace H : ((some (l0.drop (x7_3 : Int).toNat : List (S51))).bind fun y432 => (if (y432.length : Int) > 0 then (if 0 < (y432.length : Int) then (spec_l35Add.j2 kj3 a1 a2 y429 y432 (((rd_T51 y432 0).f0).toList == a1.toList)) else (none)) else (spec_l35Add.j2 kj3 a1 a2 y429 y432 false))) = some r := by first | (rw [hy429]; with_reducible exact H) | (have H2_ := (Option.bind_some _ _).symm.trans H; rw [hy429]; with_reducible exact H2_) | (have H2_ := (Option.bind_some _ _).symm.trans H; with_reducible exact H2_) | with_reducible exact H | (rw [hy429]; exact H) | exact H
      have Ny429 := Aside0.mk hy429
      clear hy429
      have c11b0 := eq_true (of_decide_eq_true (by first | (with_reducible assumption) | assumption) : 0 ≤ x7_3)
      have c12b0 := eq_true (of_decide_eq_true (by first | (with_reducible assumption) | assumption) : x7_3 ≤ (l0.length : Int))
      obtain ⟨y432, hy432⟩ : ∃ y_ : List (S51), y_ = (l0.drop (x7_3 : Int).toNat) := ⟨_, rfl⟩
      replace H : (if (y432.length : Int) > 0 then (if 0 < (y432.length : Int) then (spec_l35Add.j2 kj3 a1 a2 y429 y432 (((rd_T51 y432 0).f0).toList == a1.toList)) else (none)) else (spec_l35Add.j2 kj3 a1 a2 y429 y432 false)) = some r := by first | (rw [hy432]; with_reducible exact H) | (have H2_ := (Option.bind_some _ _).symm.trans H; rw [hy432]; with_reducible exact H2_) | (have H2_ := (Option.bind_some _ _).symm.trans H; with_reducible exact H2_) | with_reducible exact H | (rw [hy432]; exact H) | exact H
      have Ny432 := Aside0.mk hy432
      clear hy432
      have HC13 := Aside0.mk H
      clear H
      go_upto_region 6 with (first | ((with_reducible refine gate_dst (N := 25) rfl ?_); refine Kd.R_lit k51 _ 51 ?hg (N := 25) ?hd (xs := ([] : List (S51))) (inner := []) (ok := fun _ => True) (okp := fun _ => True) ?hr ?hp (fun _ hk => hk) trivial (Below.refl _ _) (Nat.le_refl _) (by simp) ?_; (case hd => rfl); (case hg => rfl); (case hr => first | (go_simp; done) | (go_simp; rfl)); (case hp => exact (Reps.none _ _)); intro v423 w14 ho15 hb hg_ hnew_; clear hg_ hnew_; (first | rw [← Ny422.out] at ho15 | (simp only [Int.reduceToNat] at ho15; rw [← Ny422.out] at ho15)); have n0_ := Aside0.mk (Kd.R_lower ho15 (below_size (by repeat (first | (with_reducible first | exact HB.out | apply below_alloc | apply pw_below_drewN | apply below_drew1) | exact HB.out)))); have n1_ := Aside0.mk (below_step (by repeat (first | (with_reducible first | exact HB.out | apply below_alloc | apply pw_below_drewN | apply below_drew1) | exact HB.out)) hb); clear HB; have HO424 := n0_; have HB := n1_; clear n0_ n1_; clear hb ho15; have q16 : (x7_3 : Int) ≤ ((l0.length : Int) : Int) := of_decide_eq_true (by first | (with_reducible assumption) | assumption); obtain ⟨i016, hi016, _, hsz16, _⟩ := info_parts info51; have hroom16 : l0.length ≤ c0 := HC0.out; have hC16 : Kd.C k51 _ A0 l0.length l0 := HR0.out; have hcut16 := cut_to (P := Try.prog) 41 51 .i64 Try.underlying41 hi016 A0 l0.length c0 x7_3 (of_decide_eq_true (by first | (with_reducible assumption) | assumption)) q16 hroom16; have hr16 := Kd.C_take (m := (x7_3 : Int).toNat) hC16 (by omega); have hy16 : y425.length = (x7_3 : Int).toNat := (by rw [Ny425.out, List.length_take]; omega); rw [← Ny425.out] at hr16; rw [← hy16] at hcut16; have HR428 := Aside0.mk hr16; have HC428 := Aside0.mk (show y425.length ≤ c0 from by omega); clear hr16 hC16 hroom16 hi016 hsz16; have KY16 := Aside0.mk hy16; clear hy16; replace q16 := eq_true q16) | ((with_reducible refine gate_builtin (b := .append) (xs := #[.tmp 25, .tmp 28]) rfl ?_); at_builtin; refine Kd.R_append_rows k51 (w0 := w) w.heap.size rfl (.tmp 25) (.tmp 28) 41 51 (.agg #[(.string ⟨#[]⟩), (.int .i64 0)]) 24 rfl Try.underlying41 info51 rfl (by decide) (by omega) v423 y422 y425 _ _ _ (fun _ => True) (fun _ => False) rfl rfl ?aO ?aR (fun _ _ h => h) (fun _ h => h.elim) ?aF ?aB ?aS ?aL ?_; (case aR => repeat (first | exact (Kd.C_below HR428.out HB.out) | (with_reducible refine Kd.C_alloc ?_ _) | (with_reducible refine Kd.C_drewN ?_ _) | (with_reducible refine Kd.C_drew ?_))); (case aB => exact (by repeat (first | (with_reducible first | exact HB.out | apply below_alloc | apply pw_below_drewN | apply below_drew1) | exact HB.out))); (case aF => exact (fun _ _ => trivial)); (case aO => exact (by (with_reducible repeat (first | apply Kd.R_alloc | apply Kd.R_drewN | apply Kd.R_drew)); exact HO424.out)); (case aS => exact (below_size (by repeat (first | (with_reducible first | exact HB.out | apply below_alloc | apply pw_below_drewN | apply below_drew1) | exact HB.out)))); (case aL => have := LMc10.out; omega); intro v430 w17 ho hb hg hat; rw [← Ny429.out] at ho; have n0_ := Aside0.mk (hb); have n1_ := Aside0.mk (ho); clear HB; clear HO424; have HB := n0_; have HO431 := n1_; clear n0_ n1_; clear ho hb hg hat; have q18 : (x7_3 : Int) ≤ ((l0.length : Int) : Int) := of_decide_eq_true (by first | (with_reducible assumption) | assumption); obtain ⟨i018, hi018, _, hsz18, _⟩ := info_parts info51; have hroom18 : l0.length ≤ c0 := HC0.out; have hC18 : Kd.C k51 _ A0 l0.length l0 := HR0.out; have q018 : (0 : Int) ≤ (x7_3 : Int) := of_decide_eq_true (by first | (with_reducible assumption) | assumption); have hcut18 := cut_from (P := Try.prog) 41 51 .i64 Try.underlying41 hi018 2 hsz18 A0 l0.length c0 x7_3 q018 q18; have hr18 := Kd.C_drop (m := (x7_3 : Int).toNat) (c := c0) hC18 (by omega) hroom18; obtain ⟨A18, hA18⟩ : ∃ A1, A1 = (if c0 = (x7_3 : Int).toNat then A0 else (A0 : Option Addr).map (·.add ((x7_3 : Int).toNat * 2))) := ⟨_, rfl⟩; obtain ⟨c18, hc18⟩ : ∃ c1, c1 = c0 - (x7_3 : Int).toNat := ⟨_, rfl⟩; have hy18 : y432.length = l0.length - (x7_3 : Int).toNat := (by rw [Ny432.out, List.length_drop] <;> omega); rw [show (l0).drop (x7_3 : Int).toNat = y432 from Ny432.out.symm] at hr18; replace hr18 : Kd.C k51 _ A18 y432.length y432 := (by rw [hA18]; exact hr18); rw [← hy18, ← hA18, ← hc18] at hcut18; have HR435 := Aside0.mk hr18; have HC435 := Aside0.mk (show y432.length ≤ c18 from by rw [hy18, hc18]; exact Nat.sub_le_sub_right hroom18 _); clear hr18 hC18 hroom18 hi018 hsz18 hc18; have KY18 := Aside0.mk hy18; have KA18 := Aside0.mk hA18; clear hy18 hA18; replace q18 := eq_true q18))
      (try simp only [Act.put, List.setIfInBounds_toArray, List.set_cons_zero, List.set_cons_succ])
      go_cut [43] (fun v43 wc => ∃ (kq : Nat) (x43_12 : Bool), v43 = .bool x43_12 ∧ Aside0 (spec_l35Add.j2 kq a1 a2 y429 y432 x43_12 = some r) ∧ Aside0 (kq ≤ kj3) ∧ Aside0 (Kd.R k51 51 wc w.heap.size (fun _ => True) v430 y429) ∧ Aside0 (Below w.heap.size w wc))
      case first =>
       have H := HC13.out
       clear HC13
       by_cases c19 : (y432.length : Int) > 0
       ·rw [if_pos c19] at H
        have c19b0 : decide (0 < (y432.length : Int)) = true := decide_eq_true c19
        have c19b1 : decide (0 < y432.length) = true := decide_eq_true (by omega)
        clear c19
        (first | rw [c19b0] | (simp only [i64_w, i32_w]; rw [c19b0]) | skip)
        by_cases c20 : 0 < (y432.length : Int)
        ·rw [if_pos c20] at H
         have c20b0 : decide (0 < (y432.length : Int)) = true := decide_eq_true c20
         have c20b1 : decide (0 < y432.length) = true := decide_eq_true (by omega)
         clear c20
         have H' := Aside0.mk H
         clear H
         have p436 : 0 ≤ (0 : Int) := (by omega)
         have q436 : 0 < (y432.length : Int) := of_decide_eq_true (by first | (with_reducible assumption) | assumption)
         obtain ⟨ad436, e436, hx436_0, hx436_1⟩ := at_T51 HR435.out 0 p436 q436
         cases e436
         have qi436 : (0 < y432.length) = True := eq_true (by omega)
         (try rw [show ((0 : Int)).toNat = 0 from rfl] at hx436_0)
         (try rw [show 0 * 2 = 0 from rfl] at hx436_0)
         (try rw [Addr.add_zero'] at hx436_0)
         (try rw [show ((0 : Int)).toNat = 0 from rfl] at hx436_1)
         (try rw [show 0 * 2 = 0 from rfl] at hx436_1)
         (try rw [Addr.add_zero'] at hx436_1)
         replace hx436_0 := (HB.out.cell (World.block_lt_of_cell? w _ hx436_0)).trans hx436_0
         replace hx436_1 := (HB.out.cell (World.block_lt_of_cell? w _ hx436_1)).trans hx436_1
         replace p436 := eq_true p436
         replace q436 := eq_true q436
         go_wp2
         go_meet
         case rel => exact ⟨_, ((((rd_T51 y432 0).f0).toList == a1.toList)), (by first | rfl | (simp; done) | (simp [*]; done)), H', ⟨by have := HJ3.out; first | omega | exact Nat.le_refl _⟩, ⟨by (with_reducible repeat (first | apply Kd.R_alloc | apply Kd.R_drewN | apply Kd.R_drew)); exact HO431.out⟩, ⟨by repeat (first | (with_reducible first | exact HB.out | apply below_alloc | apply pw_below_drewN | apply below_drew1) | exact HB.out)⟩⟩
        ·rw [if_neg c20] at H
         exact absurd H (by simp)
       ·rw [if_neg c19] at H
        have c19b0 : decide (0 < (y432.length : Int)) = false := decide_eq_false c19
        have c19b1 : decide (0 < y432.length) = false := decide_eq_false (by omega)
        clear c19
        (first | rw [c19b0] | (simp only [i64_w, i32_w]; rw [c19b0]) | skip)
        have H' := Aside0.mk H
        clear H
        go_wp2
        go_meet
        case rel => exact ⟨_, (false), (by first | rfl | (simp; done) | (simp [*]; done)), H', ⟨by have := HJ3.out; first | omega | exact Nat.le_refl _⟩, ⟨by (with_reducible repeat (first | apply Kd.R_alloc | apply Kd.R_drewN | apply Kd.R_drew)); exact HO431.out⟩, ⟨by repeat (first | (with_reducible first | exact HB.out | apply below_alloc | apply pw_below_drewN | apply below_drew1) | exact HB.out)⟩⟩
      case rest =>
       clear HC13
       try clear c1
       try clear q1
       try clear c2
       try clear p2
       try clear p4
       try clear q4
       try clear hx4
       try clear qi4
       try clear c5
       try clear c5b0
       try clear c6
       try clear c6b0
       try clear p6
       try clear c7
       try clear c7b0
       try clear c8
       try clear c8b0
       try clear c8b1
       try clear c9
       try clear c9b0
       try clear c9b1
       try clear c10
       try clear c11
       try clear c11b0
       try clear c12
       try clear c12b0
       try clear q16
       try clear c18
       try clear q18
       try clear c19
       try clear c19b0
       try clear c19b1
       try clear c20
       try clear c20b0
       try clear c20b1
       try clear hx421_0
       try clear hx421_1
       try clear hx436_0
       try clear hx436_1
       try clear p2
       try clear p4
       try clear p421
       try clear p436
       try clear p6
       try clear q018
       try clear q16
       try clear q18
       try clear q4
       try clear q421
       try clear q436
       obtain ⟨kq, x43_12, rfl, HA, HJ12, HO_8, HB⟩ := hcut
       cases kq with
       | zero => exact absurd HA.out (by simp [spec_l35Add.j2])
       | succ kj12 =>
        have H := HA.out
        clear HA
        simp only [spec_l35Add.j2] at H
        by_cases c21 : x43_12 = true
        ·subst c21
         have H1 : (if 0 < (y432.length : Int) then (if 1 ≤ (y432.length : Int) then ((some (y432.drop 1 : List (S51))).bind fun y438 => (if (wrap64 (a2 + ((rd_T51 y432 0).f1))) = 0 then (if y429.length + y438.length < 5864062014805 then (some (y429 ++ y438)) else (none)) else (if y429.length < 5864062014805 then ((some (y429 ++ [(⟨a1, wrap64 (a2 + ((rd_T51 y432 0).f1))⟩ : S51)] : List (S51))).bind fun y445 => (if y445.length + y438.length < 5864062014805 then (some (y445 ++ y438)) else (none))) else (none)))) else (none)) else (none)) = some r := by rw [if_pos rfl] at H; exact H
         clear H
         have H := H1
         clear H1
         by_cases c22 : 0 < (y432.length : Int)
         ·rw [if_pos c22] at H
          have c22b0 : decide (0 < (y432.length : Int)) = true := decide_eq_true c22
          have c22b1 : decide (0 < y432.length) = true := decide_eq_true (by omega)
          clear c22
          by_cases c23 : 1 ≤ (y432.length : Int)
          ·rw [if_pos c23] at H
           have c23b0 := eq_true c23
           have c23b1 : decide (1 ≤ (y432.length : Int)) = true := decide_eq_true c23
           clear c23
           obtain ⟨y438, hy438⟩ : ∃ y_ : List (S51), y_ = (y432.drop 1) := ⟨_, rfl⟩
           replace H : (if (wrap64 (a2 + ((rd_T51 y432 0).f1))) = 0 then (if y429.length + y438.length < 5864062014805 then (some (y429 ++ y438)) else (none)) else (if y429.length < 5864062014805 then ((some (y429 ++ [(⟨a1, wrap64 (a2 + ((rd_T51 y432 0).f1))⟩ : S51)] : List (S51))).bind fun y445 => (if y445.length + y438.length < 5864062014805 then (some (y445 ++ y438)) else (none))) else (none))) = some r := by first | (rw [hy438]; with_reducible exact H) | (have H2_ := (Option.bind_some _ _).symm.trans H; rw [hy438]; with_reducible exact H2_) | (have H2_ := (Option.bind_some _ _).symm.trans H; with_reducible exact H2_) | with_reducible exact H | (rw [hy438]; exact H) | exact H
           have Ny438 := Aside0.mk hy438
           clear hy438
           by_cases c24 : (wrap64 (a2 + ((rd_T51 y432 0).f1))) = 0
           ·rw [if_pos c24] at H
            have c24b0 : ((wrap64 (a2 + ((rd_T51 y432 0).f1))) == 0) = true := beq_iff_eq.mpr c24
            have c24b1 : ((wrap64 (a2 + ((rd_T51 y432 0).f1))) != 0) = false := bne_eq_false_iff_eq.mpr c24
            clear c24
            by_cases c25 : y429.length + y438.length < 5864062014805
            ·rw [if_pos c25] at H
             have LMc25 := Aside0.mk c25
             clear c25
             obtain ⟨y442, hy442⟩ : ∃ y_ : List (S51), y_ = (y429 ++ y438) := ⟨_, rfl⟩
             replace H : (some y442) = some r := by first | (rw [hy442]; with_reducible exact H) | (have H2_ := (Option.bind_some _ _).symm.trans H; rw [hy442]; with_reducible exact H2_) | (have H2_ := (Option.bind_some _ _).symm.trans H; with_reducible exact H2_) | with_reducible exact H | (rw [hy442]; exact H) | exact H
             have Ny442 := Aside0.mk hy442
             clear hy442
             obtain rfl := Option.some.inj H
             have p437 : 0 ≤ (0 : Int) := (by omega)
             have q437 : 0 < (y432.length : Int) := of_decide_eq_true (by first | (with_reducible assumption) | assumption)
             obtain ⟨ad437, e437, hx437_0, hx437_1⟩ := at_T51 HR435.out 0 p437 q437
             cases e437
             have qi437 : (0 < y432.length) = True := eq_true (by omega)
             (try rw [show ((0 : Int)).toNat = 0 from rfl] at hx437_0)
             (try rw [show 0 * 2 = 0 from rfl] at hx437_0)
             (try rw [Addr.add_zero'] at hx437_0)
             (try rw [show ((0 : Int)).toNat = 0 from rfl] at hx437_1)
             (try rw [show 0 * 2 = 0 from rfl] at hx437_1)
             (try rw [Addr.add_zero'] at hx437_1)
             replace hx437_0 := (HB.out.cell (World.block_lt_of_cell? w _ hx437_0)).trans hx437_0
             replace hx437_1 := (HB.out.cell (World.block_lt_of_cell? w _ hx437_1)).trans hx437_1
             replace p437 := eq_true p437
             replace q437 := eq_true q437
             have q26 : (1 : Int) ≤ ((y432.length : Int) : Int) := of_decide_eq_true (by first | (with_reducible assumption) | assumption)
             obtain ⟨i026, hi026, _, hsz26, _⟩ := info_parts info51
             have hroom26 : y432.length ≤ c18 := HC435.out
             have hC26 : Kd.C k51 _ (some ad437) y432.length y432 := HR435.out
             have hcut26 := cut_from (P := Try.prog) 41 51 .i64 Try.underlying41 hi026 2 hsz26 (some ad437) y432.length c18 1 (by omega) q26
             have hr26 := Kd.C_drop (m := (1 : Int).toNat) (c := c18) hC26 (by omega) hroom26
             obtain ⟨A26, hA26⟩ : ∃ A1, A1 = (if c18 = (1 : Int).toNat then (some ad437) else ((some ad437) : Option Addr).map (·.add ((1 : Int).toNat * 2))) := ⟨_, rfl⟩
             obtain ⟨c26, hc26⟩ : ∃ c1, c1 = c18 - (1 : Int).toNat := ⟨_, rfl⟩
             have hy26 : y438.length = y432.length - (1 : Int).toNat := (by rw [Ny438.out, List.length_drop] <;> omega)
             rw [show (y432).drop (1 : Int).toNat = y438 from Ny438.out.symm] at hr26
             replace hr26 : Kd.C k51 _ A26 y438.length y438 := (by rw [hA26]; exact hr26)
             rw [← hy26, ← hA26, ← hc26] at hcut26
             have HR441 := Aside0.mk hr26
             have HC441 := Aside0.mk (show y438.length ≤ c26 from by rw [hy26, hc26]; exact Nat.sub_le_sub_right hroom26 _)
             clear hr26 hC26 hroom26 hi026 hsz26 hc26
             have KY26 := Aside0.mk hy26
             have KA26 := Aside0.mk hA26
             clear hy26 hA26
             replace q26 := eq_true q26
             go_wp2_with (first | ((with_reducible refine gate_builtin (b := .append) (xs := #[.tmp 60, .tmp 61]) rfl ?_); at_builtin; refine Kd.R_append_rows k51 (w0 := w) w.heap.size rfl (.tmp 60) (.tmp 61) 41 51 (.agg #[(.string ⟨#[]⟩), (.int .i64 0)]) 24 rfl Try.underlying41 info51 rfl (by decide) (by omega) v430 y429 y438 _ _ _ (fun _ => True) (fun _ => False) rfl rfl ?aO ?aR (fun _ _ h => h) (fun _ h => h.elim) ?aF ?aB ?aS ?aL ?_; (case aR => repeat (first | exact (Kd.C_below HR441.out HB.out) | (with_reducible refine Kd.C_alloc ?_ _) | (with_reducible refine Kd.C_drewN ?_ _) | (with_reducible refine Kd.C_drew ?_))); (case aB => exact (by repeat (first | (with_reducible first | exact HB.out | apply below_alloc | apply pw_below_drewN | apply below_drew1) | exact HB.out))); (case aF => exact (fun _ _ => trivial)); (case aO => exact (by (with_reducible repeat (first | apply Kd.R_alloc | apply Kd.R_drewN | apply Kd.R_drew)); exact HO_8.out)); (case aS => exact (below_size (by repeat (first | (with_reducible first | exact HB.out | apply below_alloc | apply pw_below_drewN | apply below_drew1) | exact HB.out)))); (case aL => have := LMc25.out; omega); intro v443 w27 ho hb hg hat; rw [← Ny442.out] at ho; have n0_ := Aside0.mk (hb); have n1_ := Aside0.mk (ho); clear HB; clear HO_8; have HB := n0_; have HO444 := n1_; clear n0_ n1_; clear ho hb hg hat))
             go_ret
             exact ⟨_, by first | rfl | (simp [errW_none, errW_some] <;> rfl) | (simp [*, errW_none, errW_some] <;> rfl), by (with_reducible repeat (first | apply Kd.R_alloc | apply Kd.R_drewN | apply Kd.R_drew)); exact HO444.out, by repeat (first | (with_reducible first | exact HB.out | apply below_alloc | apply pw_below_drewN | apply below_drew1) | exact HB.out)⟩
            ·rw [if_neg c25] at H
             exact absurd H (by simp)
           ·rw [if_neg c24] at H
            have c24b0 : ((wrap64 (a2 + ((rd_T51 y432 0).f1))) == 0) = false := beq_eq_false_iff_ne.mpr c24
            have c24b1 : ((wrap64 (a2 + ((rd_T51 y432 0).f1))) != 0) = true := bne_iff_ne.mpr c24
            by_cases c28 : y429.length < 5864062014805
            ·rw [if_pos c28] at H
             have LMc28 := Aside0.mk c28
             clear c28
             obtain ⟨y445, hy445⟩ : ∃ y_ : List (S51), y_ = (y429 ++ [(⟨a1, wrap64 (a2 + ((rd_T51 y432 0).f1))⟩ : S51)]) := ⟨_, rfl⟩
             replace H : (if y445.length + y438.length < 5864062014805 then (some (y445 ++ y438)) else (none)) = some r := by first | (rw [hy445]; with_reducible exact H) | (have H2_ := (Option.bind_some _ _).symm.trans H; rw [hy445]; with_reducible exact H2_) | (have H2_ := (Option.bind_some _ _).symm.trans H; with_reducible exact H2_) | with_reducible exact H | (rw [hy445]; exact H) | exact H
             have Ny445 := Aside0.mk hy445
             clear hy445
             by_cases c29 : y445.length + y438.length < 5864062014805
             ·rw [if_pos c29] at H
              have LMc29 := Aside0.mk c29
              clear c29
              obtain ⟨y448, hy448⟩ : ∃ y_ : List (S51), y_ = (y445 ++ y438) := ⟨_, rfl⟩
              replace H : (some y448) = some r := by first | (rw [hy448]; with_reducible exact H) | (have H2_ := (Option.bind_some _ _).symm.trans H; rw [hy448]; with_reducible exact H2_) | (have H2_ := (Option.bind_some _ _).symm.trans H; with_reducible exact H2_) | with_reducible exact H | (rw [hy448]; exact H) | exact H
              have Ny448 := Aside0.mk hy448
              clear hy448
              obtain rfl := Option.some.inj H
              have p437 : 0 ≤ (0 : Int) := (by omega)
              have q437 : 0 < (y432.length : Int) := of_decide_eq_true (by first | (with_reducible assumption) | assumption)
              obtain ⟨ad437, e437, hx437_0, hx437_1⟩ := at_T51 HR435.out 0 p437 q437
              cases e437
              have qi437 : (0 < y432.length) = True := eq_true (by omega)
              (try rw [show ((0 : Int)).toNat = 0 from rfl] at hx437_0)
              (try rw [show 0 * 2 = 0 from rfl] at hx437_0)
              (try rw [Addr.add_zero'] at hx437_0)
              (try rw [show ((0 : Int)).toNat = 0 from rfl] at hx437_1)
              (try rw [show 0 * 2 = 0 from rfl] at hx437_1)
              (try rw [Addr.add_zero'] at hx437_1)
              replace hx437_0 := (HB.out.cell (World.block_lt_of_cell? w _ hx437_0)).trans hx437_0
              replace hx437_1 := (HB.out.cell (World.block_lt_of_cell? w _ hx437_1)).trans hx437_1
              replace p437 := eq_true p437
              replace q437 := eq_true q437
              have q30 : (1 : Int) ≤ ((y432.length : Int) : Int) := of_decide_eq_true (by first | (with_reducible assumption) | assumption)
              obtain ⟨i030, hi030, _, hsz30, _⟩ := info_parts info51
              have hroom30 : y432.length ≤ c18 := HC435.out
              have hC30 : Kd.C k51 _ (some ad437) y432.length y432 := HR435.out
              have hcut30 := cut_from (P := Try.prog) 41 51 .i64 Try.underlying41 hi030 2 hsz30 (some ad437) y432.length c18 1 (by omega) q30
              have hr30 := Kd.C_drop (m := (1 : Int).toNat) (c := c18) hC30 (by omega) hroom30
              obtain ⟨A30, hA30⟩ : ∃ A1, A1 = (if c18 = (1 : Int).toNat then (some ad437) else ((some ad437) : Option Addr).map (·.add ((1 : Int).toNat * 2))) := ⟨_, rfl⟩
              obtain ⟨c30, hc30⟩ : ∃ c1, c1 = c18 - (1 : Int).toNat := ⟨_, rfl⟩
              have hy30 : y438.length = y432.length - (1 : Int).toNat := (by rw [Ny438.out, List.length_drop] <;> omega)
              rw [show (y432).drop (1 : Int).toNat = y438 from Ny438.out.symm] at hr30
              replace hr30 : Kd.C k51 _ A30 y438.length y438 := (by rw [hA30]; exact hr30)
              rw [← hy30, ← hA30, ← hc30] at hcut30
              have HR441 := Aside0.mk hr30
              have HC441 := Aside0.mk (show y438.length ≤ c30 from by rw [hy30, hc30]; exact Nat.sub_le_sub_right hroom30 _)
              clear hr30 hC30 hroom30 hi030 hsz30 hc30
              have KY30 := Aside0.mk hy30
              have KA30 := Aside0.mk hA30
              clear hy30 hA30
              replace q30 := eq_true q30
              go_wp2_with (first | ((with_reducible refine gate_builtin (b := .append) (xs := #[.tmp 54, .tmp 58]) rfl ?_); at_builtin; refine Kd.R_append k51 (w0 := w) w.heap.size rfl (.tmp 54) (.tmp 58) 41 51 (.agg #[(.string ⟨#[]⟩), (.int .i64 0)]) 24 rfl Try.underlying41 info51 rfl (by decide) (by omega) v430 y429 (⟨a1, wrap64 (a2 + ((rd_T51 y432 0).f1))⟩ : S51) [.string a1, .int .i64 (wrap64 (a2 + ((rd_T51 y432 0).f1)))] (fun _ => True) (fun _ => False) rfl rfl ?aP (fun _ hk => hk.elim) ?aF ?aO ?aB ?aS ?aL ?_; (case aP => exact k51_mkM _ _ _ (⟨a1, wrap64 (a2 + ((rd_T51 y432 0).f1))⟩ : S51)); (case aB => exact (by repeat (first | (with_reducible first | exact HB.out | apply below_alloc | apply pw_below_drewN | apply below_drew1) | exact HB.out))); (case aF => exact (fun _ _ => trivial)); (case aO => exact (by (with_reducible repeat (first | apply Kd.R_alloc | apply Kd.R_drewN | apply Kd.R_drew)); exact HO_8.out)); (case aS => exact (below_size (by repeat (first | (with_reducible first | exact HB.out | apply below_alloc | apply pw_below_drewN | apply below_drew1) | exact HB.out)))); (case aL => have := LMc28.out; omega); intro v446 w31 ho hb hg hat; rw [← Ny445.out] at ho; have n0_ := Aside0.mk (hb); have n1_ := Aside0.mk (ho); clear HB; clear HO_8; have HB := n0_; have HO447 := n1_; clear n0_ n1_; clear ho hb hg hat) | ((with_reducible refine gate_builtin (b := .append) (xs := #[.tmp 60, .tmp 61]) rfl ?_); at_builtin; refine Kd.R_append_rows k51 (w0 := w) w.heap.size rfl (.tmp 60) (.tmp 61) 41 51 (.agg #[(.string ⟨#[]⟩), (.int .i64 0)]) 24 rfl Try.underlying41 info51 rfl (by decide) (by omega) v446 y445 y438 _ _ _ (fun _ => True) (fun _ => False) rfl rfl ?aO ?aR (fun _ _ h => h) (fun _ h => h.elim) ?aF ?aB ?aS ?aL ?_; (case aR => repeat (first | exact (Kd.C_below HR441.out HB.out) | (with_reducible refine Kd.C_alloc ?_ _) | (with_reducible refine Kd.C_drewN ?_ _) | (with_reducible refine Kd.C_drew ?_))); (case aB => exact (by repeat (first | (with_reducible first | exact HB.out | apply below_alloc | apply pw_below_drewN | apply below_drew1) | exact HB.out))); (case aF => exact (fun _ _ => trivial)); (case aO => exact (by (with_reducible repeat (first | apply Kd.R_alloc | apply Kd.R_drewN | apply Kd.R_drew)); exact HO447.out)); (case aS => exact (below_size (by repeat (first | (with_reducible first | exact HB.out | apply below_alloc | apply pw_below_drewN | apply below_drew1) | exact HB.out)))); (case aL => have := LMc29.out; omega); intro v449 w32 ho hb hg hat; rw [← Ny448.out] at ho; have n0_ := Aside0.mk (hb); have n1_ := Aside0.mk (ho); clear HB; clear HO447; have HB := n0_; have HO450 := n1_; clear n0_ n1_; clear ho hb hg hat))
              go_ret
              exact ⟨_, by first | rfl | (simp [errW_none, errW_some] <;> rfl) | (simp [*, errW_none, errW_some] <;> rfl), by (with_reducible repeat (first | apply Kd.R_alloc | apply Kd.R_drewN | apply Kd.R_drew)); exact HO450.out, by repeat (first | (with_reducible first | exact HB.out | apply below_alloc | apply pw_below_drewN | apply below_drew1) | exact HB.out)⟩
             ·rw [if_neg c29] at H
              exact absurd H (by simp)
            ·rw [if_neg c28] at H
             exact absurd H (by simp)
          ·rw [if_neg c23] at H
           exact absurd H (by simp)
         ·rw [if_neg c22] at H
          exact absurd H (by simp)
        ·replace c21 := Bool.eq_false_iff.mpr c21
         subst c21
         have H1 : (if a2 = 0 then (if y429.length + y432.length < 5864062014805 then (some (y429 ++ y432)) else (none)) else (if y429.length < 5864062014805 then ((some (y429 ++ [(⟨a1, a2⟩ : S51)] : List (S51))).bind fun y454 => (if y454.length + y432.length < 5864062014805 then (some (y454 ++ y432)) else (none))) else (none))) = some r := by rw [if_neg (show ¬ (false = true) by decide)] at H; exact H
         clear H
         have H := H1
         clear H1
         by_cases c33 : a2 = 0
         ·rw [if_pos c33] at H
          have c33b0 : (a2 == 0) = true := beq_iff_eq.mpr c33
          have c33b1 : (a2 != 0) = false := bne_eq_false_iff_eq.mpr c33
          clear c33
          by_cases c34 : y429.length + y432.length < 5864062014805
          ·rw [if_pos c34] at H
           have LMc34 := Aside0.mk c34
           clear c34
           obtain ⟨y451, hy451⟩ : ∃ y_ : List (S51), y_ = (y429 ++ y432) := ⟨_, rfl⟩
           replace H : (some y451) = some r := by first | (rw [hy451]; with_reducible exact H) | (have H2_ := (Option.bind_some _ _).symm.trans H; rw [hy451]; with_reducible exact H2_) | (have H2_ := (Option.bind_some _ _).symm.trans H; with_reducible exact H2_) | with_reducible exact H | (rw [hy451]; exact H) | exact H
           have Ny451 := Aside0.mk hy451
           clear hy451
           obtain rfl := Option.some.inj H
           go_wp2_with (first | ((with_reducible refine gate_builtin (b := .append) (xs := #[.tmp 60, .tmp 61]) rfl ?_); at_builtin; refine Kd.R_append_rows k51 (w0 := w) w.heap.size rfl (.tmp 60) (.tmp 61) 41 51 (.agg #[(.string ⟨#[]⟩), (.int .i64 0)]) 24 rfl Try.underlying41 info51 rfl (by decide) (by omega) v430 y429 y432 _ _ _ (fun _ => True) (fun _ => False) rfl rfl ?aO ?aR (fun _ _ h => h) (fun _ h => h.elim) ?aF ?aB ?aS ?aL ?_; (case aR => repeat (first | exact (Kd.C_below HR435.out HB.out) | (with_reducible refine Kd.C_alloc ?_ _) | (with_reducible refine Kd.C_drewN ?_ _) | (with_reducible refine Kd.C_drew ?_))); (case aB => exact (by repeat (first | (with_reducible first | exact HB.out | apply below_alloc | apply pw_below_drewN | apply below_drew1) | exact HB.out))); (case aF => exact (fun _ _ => trivial)); (case aO => exact (by (with_reducible repeat (first | apply Kd.R_alloc | apply Kd.R_drewN | apply Kd.R_drew)); exact HO_8.out)); (case aS => exact (below_size (by repeat (first | (with_reducible first | exact HB.out | apply below_alloc | apply pw_below_drewN | apply below_drew1) | exact HB.out)))); (case aL => have := LMc34.out; omega); intro v452 w35 ho hb hg hat; rw [← Ny451.out] at ho; have n0_ := Aside0.mk (hb); have n1_ := Aside0.mk (ho); clear HB; clear HO_8; have HB := n0_; have HO453 := n1_; clear n0_ n1_; clear ho hb hg hat))
           go_ret
           exact ⟨_, by first | rfl | (simp [errW_none, errW_some] <;> rfl) | (simp [*, errW_none, errW_some] <;> rfl), by (with_reducible repeat (first | apply Kd.R_alloc | apply Kd.R_drewN | apply Kd.R_drew)); exact HO453.out, by repeat (first | (with_reducible first | exact HB.out | apply below_alloc | apply pw_below_drewN | apply below_drew1) | exact HB.out)⟩
          ·rw [if_neg c34] at H
           exact absurd H (by simp)
         ·rw [if_neg c33] at H
          have c33b0 : (a2 == 0) = false := beq_eq_false_iff_ne.mpr c33
          have c33b1 : (a2 != 0) = true := bne_iff_ne.mpr c33
          by_cases c36 : y429.length < 5864062014805
          ·rw [if_pos c36] at H
           have LMc36 := Aside0.mk c36
           clear c36
           obtain ⟨y454, hy454⟩ : ∃ y_ : List (S51), y_ = (y429 ++ [(⟨a1, a2⟩ : S51)]) := ⟨_, rfl⟩
           replace H : (if y454.length + y432.length < 5864062014805 then (some (y454 ++ y432)) else (none)) = some r := by first | (rw [hy454]; with_reducible exact H) | (have H2_ := (Option.bind_some _ _).symm.trans H; rw [hy454]; with_reducible exact H2_) | (have H2_ := (Option.bind_some _ _).symm.trans H; with_reducible exact H2_) | with_reducible exact H | (rw [hy454]; exact H) | exact H
           have Ny454 := Aside0.mk hy454
           clear hy454
           by_cases c37 : y454.length + y432.length < 5864062014805
           ·rw [if_pos c37] at H
            have LMc37 := Aside0.mk c37
            clear c37
            obtain ⟨y457, hy457⟩ : ∃ y_ : List (S51), y_ = (y454 ++ y432) := ⟨_, rfl⟩
            replace H : (some y457) = some r := by first | (rw [hy457]; with_reducible exact H) | (have H2_ := (Option.bind_some _ _).symm.trans H; rw [hy457]; with_reducible exact H2_) | (have H2_ := (Option.bind_some _ _).symm.trans H; with_reducible exact H2_) | with_reducible exact H | (rw [hy457]; exact H) | exact H
            have Ny457 := Aside0.mk hy457
            clear hy457
            obtain rfl := Option.some.inj H
            go_wp2_with (first | ((with_reducible refine gate_builtin (b := .append) (xs := #[.tmp 54, .tmp 58]) rfl ?_); at_builtin; refine Kd.R_append k51 (w0 := w) w.heap.size rfl (.tmp 54) (.tmp 58) 41 51 (.agg #[(.string ⟨#[]⟩), (.int .i64 0)]) 24 rfl Try.underlying41 info51 rfl (by decide) (by omega) v430 y429 (⟨a1, a2⟩ : S51) [.string a1, .int .i64 a2] (fun _ => True) (fun _ => False) rfl rfl ?aP (fun _ hk => hk.elim) ?aF ?aO ?aB ?aS ?aL ?_; (case aP => exact k51_mkM _ _ _ (⟨a1, a2⟩ : S51)); (case aB => exact (by repeat (first | (with_reducible first | exact HB.out | apply below_alloc | apply pw_below_drewN | apply below_drew1) | exact HB.out))); (case aF => exact (fun _ _ => trivial)); (case aO => exact (by (with_reducible repeat (first | apply Kd.R_alloc | apply Kd.R_drewN | apply Kd.R_drew)); exact HO_8.out)); (case aS => exact (below_size (by repeat (first | (with_reducible first | exact HB.out | apply below_alloc | apply pw_below_drewN | apply below_drew1) | exact HB.out)))); (case aL => have := LMc36.out; omega); intro v455 w38 ho hb hg hat; rw [← Ny454.out] at ho; have n0_ := Aside0.mk (hb); have n1_ := Aside0.mk (ho); clear HB; clear HO_8; have HB := n0_; have HO456 := n1_; clear n0_ n1_; clear ho hb hg hat) | ((with_reducible refine gate_builtin (b := .append) (xs := #[.tmp 60, .tmp 61]) rfl ?_); at_builtin; refine Kd.R_append_rows k51 (w0 := w) w.heap.size rfl (.tmp 60) (.tmp 61) 41 51 (.agg #[(.string ⟨#[]⟩), (.int .i64 0)]) 24 rfl Try.underlying41 info51 rfl (by decide) (by omega) v455 y454 y432 _ _ _ (fun _ => True) (fun _ => False) rfl rfl ?aO ?aR (fun _ _ h => h) (fun _ h => h.elim) ?aF ?aB ?aS ?aL ?_; (case aR => repeat (first | exact (Kd.C_below HR435.out HB.out) | (with_reducible refine Kd.C_alloc ?_ _) | (with_reducible refine Kd.C_drewN ?_ _) | (with_reducible refine Kd.C_drew ?_))); (case aB => exact (by repeat (first | (with_reducible first | exact HB.out | apply below_alloc | apply pw_below_drewN | apply below_drew1) | exact HB.out))); (case aF => exact (fun _ _ => trivial)); (case aO => exact (by (with_reducible repeat (first | apply Kd.R_alloc | apply Kd.R_drewN | apply Kd.R_drew)); exact HO456.out)); (case aS => exact (below_size (by repeat (first | (with_reducible first | exact HB.out | apply below_alloc | apply pw_below_drewN | apply below_drew1) | exact HB.out)))); (case aL => have := LMc37.out; omega); intro v458 w39 ho hb hg hat; rw [← Ny457.out] at ho; have n0_ := Aside0.mk (hb); have n1_ := Aside0.mk (ho); clear HB; clear HO456; have HB := n0_; have HO459 := n1_; clear n0_ n1_; clear ho hb hg hat))
            go_ret
            exact ⟨_, by first | rfl | (simp [errW_none, errW_some] <;> rfl) | (simp [*, errW_none, errW_some] <;> rfl), by (with_reducible repeat (first | apply Kd.R_alloc | apply Kd.R_drewN | apply Kd.R_drew)); exact HO459.out, by repeat (first | (with_reducible first | exact HB.out | apply below_alloc | apply pw_below_drewN | apply below_drew1) | exact HB.out)⟩
           ·rw [if_neg c37] at H
            exact absurd H (by simp)
          ·rw [if_neg c36] at H
           exact absurd H (by simp)
     ·rw [if_neg c10] at H
      exact absurd H (by simp)
    ·rw [if_neg c9] at H
     exact absurd H (by simp)
   ·rw [if_neg c8] at H
    exact absurd H (by simp)

end Go.Proofs.Ytjhjeghgeclglaa.PFnClosed
