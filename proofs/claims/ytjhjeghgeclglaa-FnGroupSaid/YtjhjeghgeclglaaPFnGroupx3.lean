-- STUBBED: by the kit's print over a stand-in, then mended by programs of this session
import Derived.Test.YtjhjeghgeclglaaInsFnGroup
import Derived.Test.YtjhjeghgeclglaaShelf
import Derived.Maps.OwnSet
import Derived.Maps.OwnOps
import Derived.Sort.OwnSorted
import Derived.StringKeys
import Derived.Test.YtjhjeghgeclglaaPFnGroupx0
import Derived.Test.YtjhjeghgeclglaaPFnGroupx2
namespace Go.Proofs.Ytjhjeghgeclglaa.PFnGroup
open Go.RowKit Go.Proofs.YtjhjeghgeclglaaW.PrintWords Go.Proofs.YtjhjeghgeclglaaW.PrintLast Go.Proofs.YtjhjeghgeclglaaW.PrintMore
attribute [local go_sem] max2_int min2_int max_two min_two max_three min_three max_four min_four   -- for this text's walks alone
set_option linter.unusedVariables false
set_option linter.unusedSimpArgs false

/-! ### impl_AreDealings: function 62 -/
mutual
def impl_AreDealings.j0 : Nat → List (S81) → Int → Bool → Option (Bool)
 | 0, _, _, _ => none
 | k + 1, x0, x1, x14 => if x14 = true then (some false) else (impl_AreDealings.l0 k x1 x0 (x0.length : Int) 0)
def impl_AreDealings.l0 : Nat → Int → List (S81) → Int → Int → Option (Bool)
 | 0, _, _, _, _ => none
 | k + 1, x1, x15, x16, x17 => if x17 < x16 then (if 0 ≤ x17 then (if x17 < (x15.length : Int) then (if ((rd_T81 x15 x17).f0) = ((rd_T81 x15 x17).f1) then (some false) else ((impl_in.f ((rd_T81 x15 x17).f0) 0 (wrap64 (x1 - 1))).bind fun t188 => (if t188 = true then ((impl_in.f ((rd_T81 x15 x17).f1) 0 (wrap64 (x1 - 1))).bind fun t189 => (if t189 = true then ((impl_in.f ((rd_T81 x15 x17).f2) 0 100000).bind fun t190 => (if t190 = true then ((impl_in.f ((rd_T81 x15 x17).f3) 0 ((rd_T81 x15 x17).f2)).bind fun t191 => (if t191 = true then (impl_AreDealings.l0 k x1 x15 x16 (wrap64 (x17 + 1))) else (some false))) else (some false))) else (some false))) else (some false)))) else (none)) else (none)) else (some true)
end
def impl_AreDealings.f (k : Nat) (l0 : List (S81)) (a1 : Int) : Option (Bool) := (impl_in.f a1 0 6).bind fun t185 => (if t185 = true then (impl_AreDealings.j0 k l0 a1 (decide ((l0.length : Int) > 20))) else (impl_AreDealings.j0 k l0 a1 true))
theorem impl_AreDealings.mono_l : ∀ k, (∀ y0 y1 y2, LeO (impl_AreDealings.j0 k y0 y1 y2) (impl_AreDealings.j0 (k + 1) y0 y1 y2)) ∧ (∀ y0 y1 y2 y3, LeO (impl_AreDealings.l0 k y0 y1 y2 y3) (impl_AreDealings.l0 (k + 1) y0 y1 y2 y3))
 | 0 => ⟨fun _ _ _ r h => by simp [impl_AreDealings.j0] at h, fun _ _ _ _ r h => by simp [impl_AreDealings.l0] at h⟩
 | k + 1 => by
  obtain ⟨ih0, ih1⟩ := impl_AreDealings.mono_l k
  refine ⟨?_, ?_⟩
  ·intro y0 y1 y2
   unfold impl_AreDealings.j0
   repeat' first
   | (with_reducible exact ih0 _ _ _)
   | (with_reducible exact ih1 _ _ _ _)
   | (with_reducible exact LeO.refl _)
   | (with_reducible exact LeO.none _)
   | (with_reducible refine LeO.ite ?_ ?_)
   | (with_reducible refine LeO.bind ?_ (fun _ => ?_))
   | exact ih0 _ _ _
   | exact ih1 _ _ _ _
   | exact LeO.none _
   | refine LeO.ite ?_ ?_
   | refine LeO.bind ?_ (fun _ => ?_)
  ·intro y0 y1 y2 y3
   unfold impl_AreDealings.l0
   repeat' first
   | (with_reducible exact ih0 _ _ _)
   | (with_reducible exact ih1 _ _ _ _)
   | (with_reducible exact LeO.refl _)
   | (with_reducible exact LeO.none _)
   | (with_reducible refine LeO.ite ?_ ?_)
   | (with_reducible refine LeO.bind ?_ (fun _ => ?_))
   | exact ih0 _ _ _
   | exact ih1 _ _ _ _
   | exact LeO.none _
   | refine LeO.ite ?_ ?_
   | refine LeO.bind ?_ (fun _ => ?_)
theorem impl_AreDealings.mono : ∀ a0 a1 k, LeO (impl_AreDealings.f k a0 a1) (impl_AreDealings.f (k + 1) a0 a1) := by
 intro a0 a1 k
 obtain ⟨ih0, ih1⟩ := impl_AreDealings.mono_l k
 unfold impl_AreDealings.f
 repeat' first
   | (with_reducible exact ih0 _ _ _)
   | (with_reducible exact ih1 _ _ _ _)
   | (with_reducible exact LeO.refl _)
   | (with_reducible exact LeO.none _)
   | (with_reducible refine LeO.ite ?_ ?_)
   | (with_reducible refine LeO.bind ?_ (fun _ => ?_))
   | exact ih0 _ _ _
   | exact ih1 _ _ _ _
   | exact LeO.none _
   | refine LeO.ite ?_ ?_
   | refine LeO.bind ?_ (fun _ => ?_)
set_option maxHeartbeats 8000000 in
set_option maxRecDepth 100000 in
theorem impl_AreDealings.calls (k : Nat) (A0 : Option Addr) (c0 : Nat) (l0 : List (S81)) (a1 : Int) (r : Bool) (w : World) (hr0 : Kd.C k81 w A0 l0.length l0) (hc0 : l0.length ≤ c0) (h : impl_AreDealings.f k l0 a1 = some r) :
  Calls Try.prog 62 #[.slice A0 l0.length c0, .int .i64 a1] w fun e w' => e = .returned (.bool r) ∧ Below w.heap.size w w' := by
 have hu81 := Try.underlying81
 have HR0 := Aside0.mk hr0
 have HC0 := Aside0.mk hc0
 clear hr0 hc0
 have HB := Aside0.mk (Below.refl w.heap.size w)
 have H : ((impl_in.f a1 0 6).bind fun t185 => (if t185 = true then (impl_AreDealings.j0 k l0 a1 (decide ((l0.length : Int) > 20))) else (impl_AreDealings.j0 k l0 a1 true))) = some r := h
 clear h
 have HC3 := Aside0.mk H
 clear H
 go_enter Try.func62, Try.ntmps62
 go_upto_region 1 with (fail)
 go_cut [14] (fun v14 wc => ∃ (kq : Nat) (x14_2 : Bool), v14 = .bool x14_2 ∧ Aside0 (impl_AreDealings.j0 kq l0 a1 x14_2 = some r) ∧ Aside0 (kq ≤ k) ∧ Aside0 (Below w.heap.size w wc))
 case first =>
  have H := HC3.out
  clear HC3
  replace H := Option.bind_eq_some_iff.mp H
  obtain ⟨t185, A40, H⟩ := H
  replace H : (if t185 = true then (impl_AreDealings.j0 k l0 a1 (decide ((l0.length : Int) > 20))) else (impl_AreDealings.j0 k l0 a1 true)) = some r := H
  have A4 := Aside0.mk A40
  clear A40
  by_cases c5 : t185 = true
  ·subst c5
   have H1 : (impl_AreDealings.j0 k l0 a1 (decide ((l0.length : Int) > 20))) = some r := by rw [if_pos rfl] at H; exact H
   clear H
   have H := H1
   clear H1
   have H' := Aside0.mk H
   clear H
   go_wp2_with (first | ((with_reducible refine gate_callee (f := 52) rfl ?_); refine goesL_ (some 8) rfl rfl Try.func52 (by kernel_rfl) rfl #[.int .i64 a1, .int .i64 0, .int .i64 6] rfl (by (try simp only [List.map_toArray, List.map_cons, List.map_nil]); first | done | rfl | (simp only [List.length_drop, List.length_take]; rfl)) ?_; (with_reducible refine (impl_in.calls a1 0 6 true _ A4.out).mono ?_); rintro e w' ⟨rfl, ⟨nd, rfl⟩⟩; refine ⟨_, rfl, ?_⟩))
   go_meet
   case rel => exact ⟨_, (decide ((l0.length : Int) > 20)), (by first | rfl | (simp; done) | (simp [*]; done)), H', ⟨by first | omega | exact Nat.le_refl _⟩, ⟨by repeat (first | (with_reducible first | exact HB.out | apply below_alloc | apply pw_below_drewN | apply below_drew1) | exact HB.out)⟩⟩
  ·replace c5 := Bool.eq_false_iff.mpr c5
   subst c5
   have H1 : (impl_AreDealings.j0 k l0 a1 true) = some r := by rw [if_neg (show ¬ (false = true) by decide)] at H; exact H
   clear H
   have H := H1
   clear H1
   have H' := Aside0.mk H
   clear H
   go_wp2_with (first | ((with_reducible refine gate_callee (f := 52) rfl ?_); refine goesL_ (some 8) rfl rfl Try.func52 (by kernel_rfl) rfl #[.int .i64 a1, .int .i64 0, .int .i64 6] rfl (by (try simp only [List.map_toArray, List.map_cons, List.map_nil]); first | done | rfl | (simp only [List.length_drop, List.length_take]; rfl)) ?_; (with_reducible refine (impl_in.calls a1 0 6 false _ A4.out).mono ?_); rintro e w' ⟨rfl, ⟨nd, rfl⟩⟩; refine ⟨_, rfl, ?_⟩))
   go_meet
   case rel => exact ⟨_, (true), (by first | rfl | (simp; done) | (simp [*]; done)), H', ⟨by first | omega | exact Nat.le_refl _⟩, ⟨by repeat (first | (with_reducible first | exact HB.out | apply below_alloc | apply pw_below_drewN | apply below_drew1) | exact HB.out)⟩⟩
 case rest =>
  clear HC3
  try clear p2
  try clear c5
  obtain ⟨kq, x14_2, rfl, HA, HJ2, HB⟩ := hcut
  cases kq with
  | zero => exact absurd HA.out (by simp [impl_AreDealings.j0])
  | succ kj2 =>
   have H := HA.out
   clear HA
   simp only [impl_AreDealings.j0] at H
   by_cases c6 : x14_2 = true
   ·subst c6
    have H1 : (some false) = some r := by rw [if_pos rfl] at H; exact H
    clear H
    have H := H1
    clear H1
    obtain rfl := Option.some.inj H
    go_wp2
    go_ret
    exact ⟨by first | rfl | (simp [errW_none, errW_some] <;> rfl) | (simp [*, errW_none, errW_some] <;> rfl), by repeat (first | (with_reducible first | exact HB.out | apply below_alloc | apply pw_below_drewN | apply below_drew1) | exact HB.out)⟩
   ·replace c6 := Bool.eq_false_iff.mpr c6
    subst c6
    have H1 : (impl_AreDealings.l0 kj2 a1 l0 (l0.length : Int) 0) = some r := by rw [if_neg (show ¬ (false = true) by decide)] at H; exact H
    clear H
    have H := H1
    clear H1
    have H' := Aside0.mk H
    clear H
    go_wp2
    go_loopg [17] kj2 (fun kq v17 w' => ∃ (x17_2 : Int), v17 = .int .i64 x17_2 ∧ Aside0 (impl_AreDealings.l0 kq a1 l0 (l0.length : Int) x17_2 = some r) ∧ Aside0 (kq ≤ kj2) ∧ Aside0 (Below w.heap.size w w'))
    case atStart => exact ⟨(0), (by first | rfl | (simp; done) | (simp [*]; done)), H', ⟨Nat.le_refl _⟩, ⟨by repeat (first | (with_reducible first | exact HB.out | apply below_alloc | apply pw_below_drewN | apply below_drew1) | exact HB.out)⟩⟩
    case round =>
     clear H'
     try clear p2
     try clear c5
     try clear c6
     try clear p2
     obtain ⟨x17_2, rfl, HA, HK2, HB⟩ := hrel
     cases gk with
     | zero => exact absurd HA.out (by simp [impl_AreDealings.l0])
     | succ k2 =>
      have H := HA.out
      clear HA
      simp only [impl_AreDealings.l0] at H
      by_cases c7 : x17_2 < (l0.length : Int)
      ·rw [if_pos c7] at H
       have c7b0 : decide (x17_2 < (l0.length : Int)) = true := decide_eq_true c7
       clear c7
       by_cases c8 : 0 ≤ x17_2
       ·rw [if_pos c8] at H
        have c8b0 : decide (0 ≤ x17_2) = true := decide_eq_true c8
        clear c8
        by_cases c9 : x17_2 < (l0.length : Int)
        ·rw [if_pos c9] at H
         have c9b0 : decide (x17_2 < (l0.length : Int)) = true := decide_eq_true c9
         clear c9
         by_cases c10 : ((rd_T81 l0 x17_2).f0) = ((rd_T81 l0 x17_2).f1)
         ·rw [if_pos c10] at H
          have c10b0 : (((rd_T81 l0 x17_2).f0) == ((rd_T81 l0 x17_2).f1)) = true := beq_iff_eq.mpr c10
          have c10b1 : (((rd_T81 l0 x17_2).f0) != ((rd_T81 l0 x17_2).f1)) = false := bne_eq_false_iff_eq.mpr c10
          clear c10
          obtain rfl := Option.some.inj H
          have p186 : 0 ≤ (x17_2 : Int) := of_decide_eq_true (by first | (with_reducible assumption) | assumption)
          have q186 : x17_2 < (l0.length : Int) := of_decide_eq_true (by first | (with_reducible assumption) | assumption)
          obtain ⟨ad186, e186, hx186_0, hx186_1, hx186_2, hx186_3⟩ := at_T81 HR0.out x17_2 p186 q186
          cases e186
          replace hx186_0 := (HB.out.cell (World.block_lt_of_cell? w _ hx186_0)).trans hx186_0
          replace hx186_1 := (HB.out.cell (World.block_lt_of_cell? w _ hx186_1)).trans hx186_1
          replace hx186_2 := (HB.out.cell (World.block_lt_of_cell? w _ hx186_2)).trans hx186_2
          replace hx186_3 := (HB.out.cell (World.block_lt_of_cell? w _ hx186_3)).trans hx186_3
          replace p186 := eq_true p186
          replace q186 := eq_true q186
          go_wp2_with (first | ((with_reducible refine gate_dst (N := 6) rfl ?_); (try (refine gate_guard (by rfl) ?_; dsimp only)); refine box_event ?hg (N := 6) ?hd (cs := #[.int .i64 0, .int .i64 0, .int .i64 0, .int .i64 0]) (t := 81) ?hr ?_; (case hd => rfl); (case hg => rfl); (case hr => first | (go_simp; done) | (go_simp; rfl)); intro gb187 hg w11 hbox hb; have n0_ := Aside0.mk (below_step (by repeat (first | (with_reducible first | exact HB.out | apply below_alloc | apply pw_below_drewN | apply below_drew1) | exact HB.out)) hb); have n1_ := Aside0.mk (hbox); have n2_ := Aside0.mk ((by rw [hg]; exact (below_size (by repeat (first | (with_reducible first | exact HB.out | apply below_alloc | apply pw_below_drewN | apply below_drew1) | exact HB.out))) : w.heap.size ≤ gb187)); have n3_ := Aside0.mk ((by rw [hg]; exact (below_size (by repeat (first | (with_reducible first | exact HB.out | apply below_alloc | apply pw_below_drewN | apply below_drew1) | exact HB.out))) : w.heap.size ≤ gb187)); clear HB; have HB := n0_; have BK187 := n1_; have GW187 := n2_; have GE187 := n3_; clear n0_ n1_ n2_ n3_; clear hb hbox hg; have hcz12_0 : w11.cell? ⟨gb187, 0, none⟩ = some (.int .i64 0) := (blk_cell BK187.out 0).trans rfl; have hcz12_1 : w11.cell? ⟨gb187, 1, none⟩ = some (.int .i64 0) := (blk_cell BK187.out 1).trans rfl; have hcz12_2 : w11.cell? ⟨gb187, 2, none⟩ = some (.int .i64 0) := (blk_cell BK187.out 2).trans rfl; have hcz12_3 : w11.cell? ⟨gb187, 3, none⟩ = some (.int .i64 0) := (blk_cell BK187.out 3).trans rfl; have hfz12_0 := blk_frozen BK187.out 0; have hfz12_1 := blk_frozen BK187.out 1; have hfz12_2 := blk_frozen BK187.out 2; have hfz12_3 := blk_frozen BK187.out 3))
          go_ret
          exact ⟨by first | rfl | (simp [errW_none, errW_some] <;> rfl) | (simp [*, errW_none, errW_some] <;> rfl), by repeat (first | (with_reducible first | exact HB.out | apply below_alloc | apply pw_below_drewN | apply below_drew1 | refine below_set ?_ GE187.out) | exact HB.out)⟩
         ·rw [if_neg c10] at H
          have c10b0 : (((rd_T81 l0 x17_2).f0) == ((rd_T81 l0 x17_2).f1)) = false := beq_eq_false_iff_ne.mpr c10
          have c10b1 : (((rd_T81 l0 x17_2).f0) != ((rd_T81 l0 x17_2).f1)) = true := bne_iff_ne.mpr c10
          replace H := Option.bind_eq_some_iff.mp H
          obtain ⟨t188, A130, H⟩ := H
          replace H : (if t188 = true then ((impl_in.f ((rd_T81 l0 x17_2).f1) 0 (wrap64 (a1 - 1))).bind fun t189 => (if t189 = true then ((impl_in.f ((rd_T81 l0 x17_2).f2) 0 100000).bind fun t190 => (if t190 = true then ((impl_in.f ((rd_T81 l0 x17_2).f3) 0 ((rd_T81 l0 x17_2).f2)).bind fun t191 => (if t191 = true then (impl_AreDealings.l0 k2 a1 l0 (l0.length : Int) (wrap64 (x17_2 + 1))) else (some false))) else (some false))) else (some false))) else (some false)) = some r := H
          have A13 := Aside0.mk A130
          clear A130
          by_cases c14 : t188 = true
          ·subst c14
           have H1 : ((impl_in.f ((rd_T81 l0 x17_2).f1) 0 (wrap64 (a1 - 1))).bind fun t189 => (if t189 = true then ((impl_in.f ((rd_T81 l0 x17_2).f2) 0 100000).bind fun t190 => (if t190 = true then ((impl_in.f ((rd_T81 l0 x17_2).f3) 0 ((rd_T81 l0 x17_2).f2)).bind fun t191 => (if t191 = true then (impl_AreDealings.l0 k2 a1 l0 (l0.length : Int) (wrap64 (x17_2 + 1))) else (some false))) else (some false))) else (some false))) = some r := by rw [if_pos rfl] at H; exact H
           clear H
           have H := H1
           clear H1
           replace H := Option.bind_eq_some_iff.mp H
           obtain ⟨t189, A150, H⟩ := H
           replace H : (if t189 = true then ((impl_in.f ((rd_T81 l0 x17_2).f2) 0 100000).bind fun t190 => (if t190 = true then ((impl_in.f ((rd_T81 l0 x17_2).f3) 0 ((rd_T81 l0 x17_2).f2)).bind fun t191 => (if t191 = true then (impl_AreDealings.l0 k2 a1 l0 (l0.length : Int) (wrap64 (x17_2 + 1))) else (some false))) else (some false))) else (some false)) = some r := H
           have A15 := Aside0.mk A150
           clear A150
           by_cases c16 : t189 = true
           ·subst c16
            have H1 : ((impl_in.f ((rd_T81 l0 x17_2).f2) 0 100000).bind fun t190 => (if t190 = true then ((impl_in.f ((rd_T81 l0 x17_2).f3) 0 ((rd_T81 l0 x17_2).f2)).bind fun t191 => (if t191 = true then (impl_AreDealings.l0 k2 a1 l0 (l0.length : Int) (wrap64 (x17_2 + 1))) else (some false))) else (some false))) = some r := by rw [if_pos rfl] at H; exact H
            clear H
            have H := H1
            clear H1
            replace H := Option.bind_eq_some_iff.mp H
            obtain ⟨t190, A170, H⟩ := H
            replace H : (if t190 = true then ((impl_in.f ((rd_T81 l0 x17_2).f3) 0 ((rd_T81 l0 x17_2).f2)).bind fun t191 => (if t191 = true then (impl_AreDealings.l0 k2 a1 l0 (l0.length : Int) (wrap64 (x17_2 + 1))) else (some false))) else (some false)) = some r := H
            have A17 := Aside0.mk A170
            clear A170
            by_cases c18 : t190 = true
            ·subst c18
             have H1 : ((impl_in.f ((rd_T81 l0 x17_2).f3) 0 ((rd_T81 l0 x17_2).f2)).bind fun t191 => (if t191 = true then (impl_AreDealings.l0 k2 a1 l0 (l0.length : Int) (wrap64 (x17_2 + 1))) else (some false))) = some r := by rw [if_pos rfl] at H; exact H
             clear H
             have H := H1
             clear H1
             replace H := Option.bind_eq_some_iff.mp H
             obtain ⟨t191, A190, H⟩ := H
             replace H : (if t191 = true then (impl_AreDealings.l0 k2 a1 l0 (l0.length : Int) (wrap64 (x17_2 + 1))) else (some false)) = some r := H
             have A19 := Aside0.mk A190
             clear A190
             by_cases c20 : t191 = true
             ·subst c20
              have H1 : (impl_AreDealings.l0 k2 a1 l0 (l0.length : Int) (wrap64 (x17_2 + 1))) = some r := by rw [if_pos rfl] at H; exact H
              clear H
              have H := H1
              clear H1
              have H' := Aside0.mk H
              clear H
              have p186 : 0 ≤ (x17_2 : Int) := of_decide_eq_true (by first | (with_reducible assumption) | assumption)
              have q186 : x17_2 < (l0.length : Int) := of_decide_eq_true (by first | (with_reducible assumption) | assumption)
              obtain ⟨ad186, e186, hx186_0, hx186_1, hx186_2, hx186_3⟩ := at_T81 HR0.out x17_2 p186 q186
              cases e186
              replace hx186_0 := (HB.out.cell (World.block_lt_of_cell? w _ hx186_0)).trans hx186_0
              replace hx186_1 := (HB.out.cell (World.block_lt_of_cell? w _ hx186_1)).trans hx186_1
              replace hx186_2 := (HB.out.cell (World.block_lt_of_cell? w _ hx186_2)).trans hx186_2
              replace hx186_3 := (HB.out.cell (World.block_lt_of_cell? w _ hx186_3)).trans hx186_3
              replace p186 := eq_true p186
              replace q186 := eq_true q186
              go_wp2_with (first | ((with_reducible refine gate_dst (N := 6) rfl ?_); (try (refine gate_guard (by rfl) ?_; dsimp only)); refine box_event ?hg (N := 6) ?hd (cs := #[.int .i64 0, .int .i64 0, .int .i64 0, .int .i64 0]) (t := 81) ?hr ?_; (case hd => rfl); (case hg => rfl); (case hr => first | (go_simp; done) | (go_simp; rfl)); intro gb187 hg w21 hbox hb; have n0_ := Aside0.mk (below_step (by repeat (first | (with_reducible first | exact HB.out | apply below_alloc | apply pw_below_drewN | apply below_drew1) | exact HB.out)) hb); have n1_ := Aside0.mk (hbox); have n2_ := Aside0.mk ((by rw [hg]; exact (below_size (by repeat (first | (with_reducible first | exact HB.out | apply below_alloc | apply pw_below_drewN | apply below_drew1) | exact HB.out))) : w.heap.size ≤ gb187)); have n3_ := Aside0.mk ((by rw [hg]; exact (below_size (by repeat (first | (with_reducible first | exact HB.out | apply below_alloc | apply pw_below_drewN | apply below_drew1) | exact HB.out))) : w.heap.size ≤ gb187)); clear HB; have HB := n0_; have BK187 := n1_; have GW187 := n2_; have GE187 := n3_; clear n0_ n1_ n2_ n3_; clear hb hbox hg; have hcz22_0 : w21.cell? ⟨gb187, 0, none⟩ = some (.int .i64 0) := (blk_cell BK187.out 0).trans rfl; have hcz22_1 : w21.cell? ⟨gb187, 1, none⟩ = some (.int .i64 0) := (blk_cell BK187.out 1).trans rfl; have hcz22_2 : w21.cell? ⟨gb187, 2, none⟩ = some (.int .i64 0) := (blk_cell BK187.out 2).trans rfl; have hcz22_3 : w21.cell? ⟨gb187, 3, none⟩ = some (.int .i64 0) := (blk_cell BK187.out 3).trans rfl; have hfz22_0 := blk_frozen BK187.out 0; have hfz22_1 := blk_frozen BK187.out 1; have hfz22_2 := blk_frozen BK187.out 2; have hfz22_3 := blk_frozen BK187.out 3) | (go_at_call 52; (with_reducible refine (impl_in.calls ((rd_T81 l0 x17_2).f0) 0 (wrap64 (a1 - 1)) true _ A13.out).mono ?_); rintro e w' ⟨rfl, ⟨nd, rfl⟩⟩) | (go_at_call 52; (with_reducible refine (impl_in.calls ((rd_T81 l0 x17_2).f1) 0 (wrap64 (a1 - 1)) true _ A15.out).mono ?_); rintro e w' ⟨rfl, ⟨nd, rfl⟩⟩) | (go_at_call 52; (with_reducible refine (impl_in.calls ((rd_T81 l0 x17_2).f2) 0 100000 true _ A17.out).mono ?_); rintro e w' ⟨rfl, ⟨nd, rfl⟩⟩) | (go_at_call 52; (with_reducible refine (impl_in.calls ((rd_T81 l0 x17_2).f3) 0 ((rd_T81 l0 x17_2).f2) true _ A19.out).mono ?_); rintro e w' ⟨rfl, ⟨nd, rfl⟩⟩))
              go_roundg k2
              case measure => have := HJ2.out; have := HK2.out; omega
              case rel => exact ⟨(wrap64 (x17_2 + 1)), (by first | rfl | (simp; done) | (simp [*]; done)), H', ⟨by have := HJ2.out; have := HK2.out; omega⟩, ⟨by repeat (first | (with_reducible first | exact HB.out | apply below_alloc | apply pw_below_drewN | apply below_drew1 | refine below_set ?_ GE187.out) | exact HB.out)⟩⟩
             ·replace c20 := Bool.eq_false_iff.mpr c20
              subst c20
              have H1 : (some false) = some r := by rw [if_neg (show ¬ (false = true) by decide)] at H; exact H
              clear H
              have H := H1
              clear H1
              obtain rfl := Option.some.inj H
              have p186 : 0 ≤ (x17_2 : Int) := of_decide_eq_true (by first | (with_reducible assumption) | assumption)
              have q186 : x17_2 < (l0.length : Int) := of_decide_eq_true (by first | (with_reducible assumption) | assumption)
              obtain ⟨ad186, e186, hx186_0, hx186_1, hx186_2, hx186_3⟩ := at_T81 HR0.out x17_2 p186 q186
              cases e186
              replace hx186_0 := (HB.out.cell (World.block_lt_of_cell? w _ hx186_0)).trans hx186_0
              replace hx186_1 := (HB.out.cell (World.block_lt_of_cell? w _ hx186_1)).trans hx186_1
              replace hx186_2 := (HB.out.cell (World.block_lt_of_cell? w _ hx186_2)).trans hx186_2
              replace hx186_3 := (HB.out.cell (World.block_lt_of_cell? w _ hx186_3)).trans hx186_3
              replace p186 := eq_true p186
              replace q186 := eq_true q186
              go_wp2_with (first | ((with_reducible refine gate_dst (N := 6) rfl ?_); (try (refine gate_guard (by rfl) ?_; dsimp only)); refine box_event ?hg (N := 6) ?hd (cs := #[.int .i64 0, .int .i64 0, .int .i64 0, .int .i64 0]) (t := 81) ?hr ?_; (case hd => rfl); (case hg => rfl); (case hr => first | (go_simp; done) | (go_simp; rfl)); intro gb187 hg w23 hbox hb; have n0_ := Aside0.mk (below_step (by repeat (first | (with_reducible first | exact HB.out | apply below_alloc | apply pw_below_drewN | apply below_drew1) | exact HB.out)) hb); have n1_ := Aside0.mk (hbox); have n2_ := Aside0.mk ((by rw [hg]; exact (below_size (by repeat (first | (with_reducible first | exact HB.out | apply below_alloc | apply pw_below_drewN | apply below_drew1) | exact HB.out))) : w.heap.size ≤ gb187)); have n3_ := Aside0.mk ((by rw [hg]; exact (below_size (by repeat (first | (with_reducible first | exact HB.out | apply below_alloc | apply pw_below_drewN | apply below_drew1) | exact HB.out))) : w.heap.size ≤ gb187)); clear HB; have HB := n0_; have BK187 := n1_; have GW187 := n2_; have GE187 := n3_; clear n0_ n1_ n2_ n3_; clear hb hbox hg; have hcz24_0 : w23.cell? ⟨gb187, 0, none⟩ = some (.int .i64 0) := (blk_cell BK187.out 0).trans rfl; have hcz24_1 : w23.cell? ⟨gb187, 1, none⟩ = some (.int .i64 0) := (blk_cell BK187.out 1).trans rfl; have hcz24_2 : w23.cell? ⟨gb187, 2, none⟩ = some (.int .i64 0) := (blk_cell BK187.out 2).trans rfl; have hcz24_3 : w23.cell? ⟨gb187, 3, none⟩ = some (.int .i64 0) := (blk_cell BK187.out 3).trans rfl; have hfz24_0 := blk_frozen BK187.out 0; have hfz24_1 := blk_frozen BK187.out 1; have hfz24_2 := blk_frozen BK187.out 2; have hfz24_3 := blk_frozen BK187.out 3) | (go_at_call 52; (with_reducible refine (impl_in.calls ((rd_T81 l0 x17_2).f0) 0 (wrap64 (a1 - 1)) true _ A13.out).mono ?_); rintro e w' ⟨rfl, ⟨nd, rfl⟩⟩) | (go_at_call 52; (with_reducible refine (impl_in.calls ((rd_T81 l0 x17_2).f1) 0 (wrap64 (a1 - 1)) true _ A15.out).mono ?_); rintro e w' ⟨rfl, ⟨nd, rfl⟩⟩) | (go_at_call 52; (with_reducible refine (impl_in.calls ((rd_T81 l0 x17_2).f2) 0 100000 true _ A17.out).mono ?_); rintro e w' ⟨rfl, ⟨nd, rfl⟩⟩) | (go_at_call 52; (with_reducible refine (impl_in.calls ((rd_T81 l0 x17_2).f3) 0 ((rd_T81 l0 x17_2).f2) false _ A19.out).mono ?_); rintro e w' ⟨rfl, ⟨nd, rfl⟩⟩))
              go_ret
              exact ⟨by first | rfl | (simp [errW_none, errW_some] <;> rfl) | (simp [*, errW_none, errW_some] <;> rfl), by repeat (first | (with_reducible first | exact HB.out | apply below_alloc | apply pw_below_drewN | apply below_drew1 | refine below_set ?_ GE187.out) | exact HB.out)⟩
            ·replace c18 := Bool.eq_false_iff.mpr c18
             subst c18
             have H1 : (some false) = some r := by rw [if_neg (show ¬ (false = true) by decide)] at H; exact H
             clear H
             have H := H1
             clear H1
             obtain rfl := Option.some.inj H
             have p186 : 0 ≤ (x17_2 : Int) := of_decide_eq_true (by first | (with_reducible assumption) | assumption)
             have q186 : x17_2 < (l0.length : Int) := of_decide_eq_true (by first | (with_reducible assumption) | assumption)
             obtain ⟨ad186, e186, hx186_0, hx186_1, hx186_2, hx186_3⟩ := at_T81 HR0.out x17_2 p186 q186
             cases e186
             replace hx186_0 := (HB.out.cell (World.block_lt_of_cell? w _ hx186_0)).trans hx186_0
             replace hx186_1 := (HB.out.cell (World.block_lt_of_cell? w _ hx186_1)).trans hx186_1
             replace hx186_2 := (HB.out.cell (World.block_lt_of_cell? w _ hx186_2)).trans hx186_2
             replace hx186_3 := (HB.out.cell (World.block_lt_of_cell? w _ hx186_3)).trans hx186_3
             replace p186 := eq_true p186
             replace q186 := eq_true q186
             go_wp2_with (first | ((with_reducible refine gate_dst (N := 6) rfl ?_); (try (refine gate_guard (by rfl) ?_; dsimp only)); refine box_event ?hg (N := 6) ?hd (cs := #[.int .i64 0, .int .i64 0, .int .i64 0, .int .i64 0]) (t := 81) ?hr ?_; (case hd => rfl); (case hg => rfl); (case hr => first | (go_simp; done) | (go_simp; rfl)); intro gb187 hg w25 hbox hb; have n0_ := Aside0.mk (below_step (by repeat (first | (with_reducible first | exact HB.out | apply below_alloc | apply pw_below_drewN | apply below_drew1) | exact HB.out)) hb); have n1_ := Aside0.mk (hbox); have n2_ := Aside0.mk ((by rw [hg]; exact (below_size (by repeat (first | (with_reducible first | exact HB.out | apply below_alloc | apply pw_below_drewN | apply below_drew1) | exact HB.out))) : w.heap.size ≤ gb187)); have n3_ := Aside0.mk ((by rw [hg]; exact (below_size (by repeat (first | (with_reducible first | exact HB.out | apply below_alloc | apply pw_below_drewN | apply below_drew1) | exact HB.out))) : w.heap.size ≤ gb187)); clear HB; have HB := n0_; have BK187 := n1_; have GW187 := n2_; have GE187 := n3_; clear n0_ n1_ n2_ n3_; clear hb hbox hg; have hcz26_0 : w25.cell? ⟨gb187, 0, none⟩ = some (.int .i64 0) := (blk_cell BK187.out 0).trans rfl; have hcz26_1 : w25.cell? ⟨gb187, 1, none⟩ = some (.int .i64 0) := (blk_cell BK187.out 1).trans rfl; have hcz26_2 : w25.cell? ⟨gb187, 2, none⟩ = some (.int .i64 0) := (blk_cell BK187.out 2).trans rfl; have hcz26_3 : w25.cell? ⟨gb187, 3, none⟩ = some (.int .i64 0) := (blk_cell BK187.out 3).trans rfl; have hfz26_0 := blk_frozen BK187.out 0; have hfz26_1 := blk_frozen BK187.out 1; have hfz26_2 := blk_frozen BK187.out 2; have hfz26_3 := blk_frozen BK187.out 3) | (go_at_call 52; (with_reducible refine (impl_in.calls ((rd_T81 l0 x17_2).f0) 0 (wrap64 (a1 - 1)) true _ A13.out).mono ?_); rintro e w' ⟨rfl, ⟨nd, rfl⟩⟩) | (go_at_call 52; (with_reducible refine (impl_in.calls ((rd_T81 l0 x17_2).f1) 0 (wrap64 (a1 - 1)) true _ A15.out).mono ?_); rintro e w' ⟨rfl, ⟨nd, rfl⟩⟩) | (go_at_call 52; (with_reducible refine (impl_in.calls ((rd_T81 l0 x17_2).f2) 0 100000 false _ A17.out).mono ?_); rintro e w' ⟨rfl, ⟨nd, rfl⟩⟩))
             go_ret
             exact ⟨by first | rfl | (simp [errW_none, errW_some] <;> rfl) | (simp [*, errW_none, errW_some] <;> rfl), by repeat (first | (with_reducible first | exact HB.out | apply below_alloc | apply pw_below_drewN | apply below_drew1 | refine below_set ?_ GE187.out) | exact HB.out)⟩
           ·replace c16 := Bool.eq_false_iff.mpr c16
            subst c16
            have H1 : (some false) = some r := by rw [if_neg (show ¬ (false = true) by decide)] at H; exact H
            clear H
            have H := H1
            clear H1
            obtain rfl := Option.some.inj H
            have p186 : 0 ≤ (x17_2 : Int) := of_decide_eq_true (by first | (with_reducible assumption) | assumption)
            have q186 : x17_2 < (l0.length : Int) := of_decide_eq_true (by first | (with_reducible assumption) | assumption)
            obtain ⟨ad186, e186, hx186_0, hx186_1, hx186_2, hx186_3⟩ := at_T81 HR0.out x17_2 p186 q186
            cases e186
            replace hx186_0 := (HB.out.cell (World.block_lt_of_cell? w _ hx186_0)).trans hx186_0
            replace hx186_1 := (HB.out.cell (World.block_lt_of_cell? w _ hx186_1)).trans hx186_1
            replace hx186_2 := (HB.out.cell (World.block_lt_of_cell? w _ hx186_2)).trans hx186_2
            replace hx186_3 := (HB.out.cell (World.block_lt_of_cell? w _ hx186_3)).trans hx186_3
            replace p186 := eq_true p186
            replace q186 := eq_true q186
            go_wp2_with (first | ((with_reducible refine gate_dst (N := 6) rfl ?_); (try (refine gate_guard (by rfl) ?_; dsimp only)); refine box_event ?hg (N := 6) ?hd (cs := #[.int .i64 0, .int .i64 0, .int .i64 0, .int .i64 0]) (t := 81) ?hr ?_; (case hd => rfl); (case hg => rfl); (case hr => first | (go_simp; done) | (go_simp; rfl)); intro gb187 hg w27 hbox hb; have n0_ := Aside0.mk (below_step (by repeat (first | (with_reducible first | exact HB.out | apply below_alloc | apply pw_below_drewN | apply below_drew1) | exact HB.out)) hb); have n1_ := Aside0.mk (hbox); have n2_ := Aside0.mk ((by rw [hg]; exact (below_size (by repeat (first | (with_reducible first | exact HB.out | apply below_alloc | apply pw_below_drewN | apply below_drew1) | exact HB.out))) : w.heap.size ≤ gb187)); have n3_ := Aside0.mk ((by rw [hg]; exact (below_size (by repeat (first | (with_reducible first | exact HB.out | apply below_alloc | apply pw_below_drewN | apply below_drew1) | exact HB.out))) : w.heap.size ≤ gb187)); clear HB; have HB := n0_; have BK187 := n1_; have GW187 := n2_; have GE187 := n3_; clear n0_ n1_ n2_ n3_; clear hb hbox hg; have hcz28_0 : w27.cell? ⟨gb187, 0, none⟩ = some (.int .i64 0) := (blk_cell BK187.out 0).trans rfl; have hcz28_1 : w27.cell? ⟨gb187, 1, none⟩ = some (.int .i64 0) := (blk_cell BK187.out 1).trans rfl; have hcz28_2 : w27.cell? ⟨gb187, 2, none⟩ = some (.int .i64 0) := (blk_cell BK187.out 2).trans rfl; have hcz28_3 : w27.cell? ⟨gb187, 3, none⟩ = some (.int .i64 0) := (blk_cell BK187.out 3).trans rfl; have hfz28_0 := blk_frozen BK187.out 0; have hfz28_1 := blk_frozen BK187.out 1; have hfz28_2 := blk_frozen BK187.out 2; have hfz28_3 := blk_frozen BK187.out 3) | (go_at_call 52; (with_reducible refine (impl_in.calls ((rd_T81 l0 x17_2).f0) 0 (wrap64 (a1 - 1)) true _ A13.out).mono ?_); rintro e w' ⟨rfl, ⟨nd, rfl⟩⟩) | (go_at_call 52; (with_reducible refine (impl_in.calls ((rd_T81 l0 x17_2).f1) 0 (wrap64 (a1 - 1)) false _ A15.out).mono ?_); rintro e w' ⟨rfl, ⟨nd, rfl⟩⟩))
            go_ret
            exact ⟨by first | rfl | (simp [errW_none, errW_some] <;> rfl) | (simp [*, errW_none, errW_some] <;> rfl), by repeat (first | (with_reducible first | exact HB.out | apply below_alloc | apply pw_below_drewN | apply below_drew1 | refine below_set ?_ GE187.out) | exact HB.out)⟩
          ·replace c14 := Bool.eq_false_iff.mpr c14
           subst c14
           have H1 : (some false) = some r := by rw [if_neg (show ¬ (false = true) by decide)] at H; exact H
           clear H
           have H := H1
           clear H1
           obtain rfl := Option.some.inj H
           have p186 : 0 ≤ (x17_2 : Int) := of_decide_eq_true (by first | (with_reducible assumption) | assumption)
           have q186 : x17_2 < (l0.length : Int) := of_decide_eq_true (by first | (with_reducible assumption) | assumption)
           obtain ⟨ad186, e186, hx186_0, hx186_1, hx186_2, hx186_3⟩ := at_T81 HR0.out x17_2 p186 q186
           cases e186
           replace hx186_0 := (HB.out.cell (World.block_lt_of_cell? w _ hx186_0)).trans hx186_0
           replace hx186_1 := (HB.out.cell (World.block_lt_of_cell? w _ hx186_1)).trans hx186_1
           replace hx186_2 := (HB.out.cell (World.block_lt_of_cell? w _ hx186_2)).trans hx186_2
           replace hx186_3 := (HB.out.cell (World.block_lt_of_cell? w _ hx186_3)).trans hx186_3
           replace p186 := eq_true p186
           replace q186 := eq_true q186
           go_wp2_with (first | ((with_reducible refine gate_dst (N := 6) rfl ?_); (try (refine gate_guard (by rfl) ?_; dsimp only)); refine box_event ?hg (N := 6) ?hd (cs := #[.int .i64 0, .int .i64 0, .int .i64 0, .int .i64 0]) (t := 81) ?hr ?_; (case hd => rfl); (case hg => rfl); (case hr => first | (go_simp; done) | (go_simp; rfl)); intro gb187 hg w29 hbox hb; have n0_ := Aside0.mk (below_step (by repeat (first | (with_reducible first | exact HB.out | apply below_alloc | apply pw_below_drewN | apply below_drew1) | exact HB.out)) hb); have n1_ := Aside0.mk (hbox); have n2_ := Aside0.mk ((by rw [hg]; exact (below_size (by repeat (first | (with_reducible first | exact HB.out | apply below_alloc | apply pw_below_drewN | apply below_drew1) | exact HB.out))) : w.heap.size ≤ gb187)); have n3_ := Aside0.mk ((by rw [hg]; exact (below_size (by repeat (first | (with_reducible first | exact HB.out | apply below_alloc | apply pw_below_drewN | apply below_drew1) | exact HB.out))) : w.heap.size ≤ gb187)); clear HB; have HB := n0_; have BK187 := n1_; have GW187 := n2_; have GE187 := n3_; clear n0_ n1_ n2_ n3_; clear hb hbox hg; have hcz30_0 : w29.cell? ⟨gb187, 0, none⟩ = some (.int .i64 0) := (blk_cell BK187.out 0).trans rfl; have hcz30_1 : w29.cell? ⟨gb187, 1, none⟩ = some (.int .i64 0) := (blk_cell BK187.out 1).trans rfl; have hcz30_2 : w29.cell? ⟨gb187, 2, none⟩ = some (.int .i64 0) := (blk_cell BK187.out 2).trans rfl; have hcz30_3 : w29.cell? ⟨gb187, 3, none⟩ = some (.int .i64 0) := (blk_cell BK187.out 3).trans rfl; have hfz30_0 := blk_frozen BK187.out 0; have hfz30_1 := blk_frozen BK187.out 1; have hfz30_2 := blk_frozen BK187.out 2; have hfz30_3 := blk_frozen BK187.out 3) | (go_at_call 52; (with_reducible refine (impl_in.calls ((rd_T81 l0 x17_2).f0) 0 (wrap64 (a1 - 1)) false _ A13.out).mono ?_); rintro e w' ⟨rfl, ⟨nd, rfl⟩⟩))
           go_ret
           exact ⟨by first | rfl | (simp [errW_none, errW_some] <;> rfl) | (simp [*, errW_none, errW_some] <;> rfl), by repeat (first | (with_reducible first | exact HB.out | apply below_alloc | apply pw_below_drewN | apply below_drew1 | refine below_set ?_ GE187.out) | exact HB.out)⟩
        ·rw [if_neg c9] at H
         exact absurd H (by simp)
       ·rw [if_neg c8] at H
        exact absurd H (by simp)
      ·rw [if_neg c7] at H
       have c7b0 : decide (x17_2 < (l0.length : Int)) = false := decide_eq_false c7
       clear c7
       obtain rfl := Option.some.inj H
       go_wp2
       go_ret
       exact ⟨by first | rfl | (simp [errW_none, errW_some] <;> rfl) | (simp [*, errW_none, errW_some] <;> rfl), by repeat (first | (with_reducible first | exact HB.out | apply below_alloc | apply pw_below_drewN | apply below_drew1) | exact HB.out)⟩

/-! ### impl_totals: function 63: own -/
section
open Go.Proofs.Ytjhjeghgeclglaa.InsFnGroup Go.Maps
theorem law9 : Keyed Try.prog 9 := string_keyed Try.underlying9
theorem zero3 (w : World) : (zeroValue 3).run Try.prog w = .ok (.int .i64 0) w := by kernel_rfl
theorem info9t : (Try.prog.info? 9).map (fun i => (i.zero, i.size, i.bytes)) = some (some (.string ⟨#[]⟩), 1, 16) := by kernel_rfl
/-- What the map holds behind some entries. -/
def GoodM (D : DataW Unit) (l : List S51) : Prop := IsMap D ∧ ∀ a : ByteArray, D.atKey (.string a.data.toList) (.lit (.int .i64 0)) = .lit (.int .i64 (wrap64 (sumA a l))) ∧ (Maps.has D (.string a.data.toList) = true ↔ a ∈ accs l)
theorem str_ne {a b : ByteArray} (h : a ≠ b) : (Lit.string a.data.toList) ≠ .string b.data.toList := fun e => h (by injection e with e; exact congrArg mkS e)
theorem goodM_nil : GoodM (.map []) [] := ⟨isMap_empty, fun a => ⟨by
 show _ = DataW.lit (.int .i64 (wrap64 0))
 rw [show wrap64 0 = 0 from Go.Proofs.YtjhjeghgeclglaaEv.wrap_in (by omega) (by omega)]
 rfl, ⟨fun h => by simp [Maps.has] at h, fun h => by simp [accs] at h⟩⟩⟩
theorem goodM_step {D : DataW Unit} {l : List S51} (h : GoodM D l) (x : S51) : GoodM (D.put (.string x.f0.data.toList) (.lit (.int .i64 (wrap64 (wrap64 (sumA x.f0 l) + x.f1))))) (l ++ [x]) := by
 have hk : WideAt.IsKeyLit (.string x.f0.data.toList) := trivial
 refine ⟨h.1.put _ _, fun a => ?_⟩
 rw [sumA_app, accs_snoc]
 by_cases ha : a = x.f0
 ·subst ha
  rw [atKey_put_same h.1 hk, has_put_same h.1 hk]
  refine ⟨?_, ⟨fun _ => ?_, fun _ => rfl⟩⟩
  ·show _ = DataW.lit (.int .i64 (wrap64 (sumA x.f0 l + ((if x.f0.toList = x.f0.toList then x.f1 else 0) + 0))))
   rw [if_pos rfl]
   congr 2
   unfold wrap64
   omega
  ·by_cases hm : x.f0 ∈ accs l
   ·rw [if_pos hm]; exact hm
   ·rw [if_neg hm]; simp
 ·rw [atKey_put_other (str_ne ha), has_put_other (str_ne ha), (h.2 a).1]
  refine ⟨?_, ?_⟩
  ·show _ = DataW.lit (.int .i64 (wrap64 (sumA a l + ((if x.f0.toList = a.toList then x.f1 else 0) + 0))))
   rw [if_neg (fun e => ha (Go.Proofs.YtjhjeghgeclglaaEv.toList_inj e).symm), Int.add_zero, Int.add_zero]
  ·rw [(h.2 a).2]
   by_cases hm : x.f0 ∈ accs l
   ·rw [if_pos hm]
   ·rw [if_neg hm]
    simp [ha]
theorem encs_str (ts : List (List UInt8)) : ts.map encStr = encs Value.string (ts.map mkS) := by
 unfold encs
 rw [List.map_map]
 rfl
theorem sort_calls (xs : List ByteArray) (A : Option Addr) (c : Nat) (w : World) (base : Nat) (ok : Nat → Prop) (HO : Kd.R Kd.string 9 w base ok (.slice A xs.length c) xs) (hl : xs.length ≤ 1000000) :
  Calls Try.prog 79 #[.slice A xs.length c] w fun e w' => e = .returned (.tuple #[]) ∧ Kd.R Kd.string 9 w' base ok (.slice A xs.length c) (((xs.map (·.data.toList)).mergeSort leS).map mkS) ∧ w.grownBy w' (Value.slice A xs.length c).ownBlock := by
 have own := Kd.own_of_R HO
 rcases own.2 with ⟨hnil, h0⟩ | ⟨g, cap, cur, hv, hbase, hb, h1, h2, h3, h4⟩
 ·injection hnil with e1 e2 e3
  have hx : xs = [] := List.length_eq_zero_iff.1 e2
  subst hx
  refine (Try.slices_Sort_string_none A c w).mono fun e w' ⟨he, hw⟩ => ⟨he, ?_, ?_⟩
  ·rw [hw]
   have e0 : (((([] : List ByteArray).map (·.data.toList)).mergeSort leS).map mkS) = [] := by simp
   rw [e0]
   exact HO
  ·rw [hw]
   exact grown_of_below (Below.refl _ _) _
 ·injection hv with e1 e2 e3
  subst e1 e3
  have hlen : (xs.map (·.data.toList)).length = xs.length := List.length_map _
  have hst : cur.toList.take (xs.map (·.data.toList)).length = (xs.map (·.data.toList)).map encStr := by
   rw [hlen, encs_str, List.map_map]
   have : (mkS ∘ fun x : ByteArray => x.data.toList) = id := rfl
   rw [this, List.map_id]
   simpa using h4
  have hc := Try.slices_Sort_string g 0 c (xs.map (·.data.toList)) w (holds_of_block hb hst) (Array.getElem?_eq_some_iff.1 hb).1 (by rw [hlen]; omega)
  rw [hlen] at hc
  refine hc.mono ?_
  rintro e w' ⟨he, nn, os, rfl⟩
  refine ⟨he, Kd.R_of_own ?_ HO.1, grownBy_sorted _⟩
  have ho := ownsRow_sorted (n := nn) (os := os) (ss := xs.map (·.data.toList)) (ts := (xs.map (·.data.toList)).mergeSort leS) (by simp) hbase hb (by rw [hlen]; exact h1) h2 h3
  rw [hlen, encs_str] at ho
  have hl2 : (((xs.map (·.data.toList)).mergeSort leS).map mkS).length = xs.length := by simp
  rw [hl2]
  exact ho
theorem GoodM.read {D : DataW Unit} {l : List S51} (h : GoodM D l) (a : ByteArray) {c : Int} (hat : D.atKey (.string a.data.toList) (.lit (.int .i64 0)) = .lit (.int .i64 c)) : wrap64 (sumA a l) = c := by
 have e := (h.2 a).1.symm.trans hat
 injection e with e
 injection e
theorem GoodM.has_ {D : DataW Unit} {l : List S51} (h : GoodM D l) (a : ByteArray) (ha : a ∈ accs l) : Maps.has D (.string a.data.toList) = true := (h.2 a).2.2 ha
theorem GoodM.hasnt {D : DataW Unit} {l : List S51} (h : GoodM D l) (a : ByteArray) (ha : a ∉ accs l) : Maps.has D (.string a.data.toList) = false := by
 rcases hh : Maps.has D (.string a.data.toList) with _ | _
 ·rfl
 ·exact absurd ((h.2 a).2.1 hh) ha
def impl_totals.f (k : Nat) (l0 : List (S51)) : Option ((List (S51))) := if l0.length ≤ 1000000 ∧ (∀ x ∈ l0, x.f0.size ≤ 1000000000 ∧ -9223372036854775808 ≤ x.f1 ∧ x.f1 ≤ 9223372036854775807) then some (addAll [] l0) else none
theorem impl_totals.mono : ∀ a0 k, LeO (impl_totals.f k a0) (impl_totals.f (k + 1) a0) := fun _ _ _ h => h
set_option maxHeartbeats 8000000 in
set_option maxRecDepth 100000 in
theorem impl_totals.calls (k : Nat) (A0 : Option Addr) (c0 : Nat) (l0 : List (S51)) (r : List (S51)) (w : World) (hr0 : Kd.C k51 w A0 l0.length l0) (hc0 : l0.length ≤ c0) (h : impl_totals.f k l0 = some r) :
  Calls Try.prog 63 #[.slice A0 l0.length c0] w fun e w' => ∃ v0_ : Value, e = .returned (v0_) ∧ Kd.R k51 51 w' w.heap.size (fun _ => True) v0_ r ∧ Below w.heap.size w w' := by
 unfold impl_totals.f at h
 by_cases hc : l0.length ≤ 1000000 ∧ (∀ x ∈ l0, x.f0.size ≤ 1000000000 ∧ -9223372036854775808 ≤ x.f1 ∧ x.f1 ≤ 9223372036854775807)
 rotate_left
 ·rw [if_neg hc] at h
  cases h
 rw [if_pos hc] at h
 obtain rfl := Option.some.inj h
 have HN := Aside0.mk hc.1
 have HALL := Aside0.mk hc.2
 have TE := Aside0.mk (tot_eq l0 (fun x hx => (hc.2 x hx).2))
 clear hc h
 have hu51 := Try.underlying51
 have HR0 := Aside0.mk hr0
 have HC0 := Aside0.mk hc0
 clear hr0 hc0
 have hmm := @run_makeMap Try.prog
 go_enter Try.func63, Try.ntmps63
 go_upto_region 2 with (fail)
 have own0 : (w.alloc (.map #[] 0)).ownsMap Try.prog 9 (plainElem (H := Unit) Try.prog 3) w.heap.size 0 (.map []) := World.ownsMap_made _ _ _ _
 have hb0 : Below w.heap.size w (w.alloc (.map #[] 0)) := below_alloc (Below.refl _ _) _
 have hs0 : w.heap.size < (w.alloc (.map #[] 0)).heap.size := by simp
 have OWN := Aside0.mk own0
 have HB := Aside0.mk hb0
 have HS := Aside0.mk hs0
 clear own0 hb0 hs0 hmm
 generalize (w.alloc (.map #[] 0)) = W1 at OWN HB HS ⊢
 go_wp2_with (first | ((with_reducible refine gate_dst (N := 13) rfl ?_); refine Kd.R_lit Kd.string _ 9 ?hg (N := 13) ?hd (xs := ([] : List ByteArray)) (inner := []) (ok := fun _ => True) (okp := fun _ => True) ?hr ?hp (fun _ hk => hk) trivial (Below.refl _ _) (Nat.le_refl _) (by simp) ?_; (case hd => rfl); (case hg => rfl); (case hr => first | (go_simp; done) | (go_simp; rfl)); (case hp => exact (Reps.none _ _)); intro v13 w2 ho hb hg_ hnew_; clear hnew_; have n0_ := Aside0.mk (Kd.R_mono (ok' := fun k => k ≠ w.heap.size) (Kd.R_lower (Kd.R_bound ho) (Nat.le_of_lt HS.out)) (fun k hk => by have := hk.2.1; have := HS.out; omega)); have n1_ := Aside0.mk (below_step HB.out hb); have n2_ := Aside0.mk (OWN.out.kept hg_ (by simp)); clear HB OWN HS hg_; have HO := n0_; have HB := n1_; have OWN := n2_; clear n0_ n1_ n2_ hb ho))
 go_loopw [4, 16] (fun v4 v16 wr => ∃ (x : Int) (D : DataW Unit), v16 = .int .i64 x ∧ Aside0 (0 ≤ x ∧ x ≤ (l0.length : Int)) ∧ Aside0 (GoodM D (l0.take x.toNat)) ∧ Aside0 (wr.ownsMap Try.prog 9 (plainElem (H := Unit) Try.prog 3) w.heap.size x.toNat D) ∧ Aside0 (Kd.R Kd.string 9 wr w.heap.size (fun k => k ≠ w.heap.size) v4 (accs (l0.take x.toNat))) ∧ Aside0 (Below w.heap.size w wr)) (fun _ v16 _ => l0.length - (intOf v16).toNat)
 case atStart => exact ⟨0, .map [], rfl, ⟨by omega⟩, ⟨goodM_nil⟩, OWN, ⟨by simpa [accs] using HO.out⟩, HB⟩
 case round =>
  obtain ⟨x, D, rfl, HX, GD, OWN, HO, HB⟩ := hrel
  by_cases hlt : x < (l0.length : Int)
  ·have p0 : 0 ≤ x := HX.out.1
   obtain ⟨ad, eA, hx0, hx1⟩ := at_T51 HR0.out x p0 hlt
   have hmem : rd_T51 l0 x ∈ l0 := Go.Proofs.YtjhjeghgeclglaaEv.getD_mem l0 _ _ (by omega)
   have htk : l0.take (x + 1).toNat = l0.take x.toNat ++ [rd_T51 l0 x] := by
    rw [show (x + 1).toNat = x.toNat + 1 by omega, List.take_succ_eq_append_getElem (by omega)]
    congr 1
    unfold rd_T51
    rw [List.getD_eq_getElem?_getD, List.getElem?_eq_getElem (by omega)]
    rfl
   have hsz := (HALL.out _ hmem).1
   have hkey : keyOf Try.prog 9 (.string (rd_T51 l0 x).f0) = some (.string (rd_T51 l0 x).f0.data.toList) := Go.WideMaps.keyOf_string_mk Try.underlying9 (by unfold maxLen; omega)
   have KEY := Aside0.mk hkey
   have hw1 : wrap64 (x + 1) = x + 1 := Go.Proofs.YtjhjeghgeclglaaEv.wrap_inc p0 hlt (by have := HN.out; omega)
   have W1 := Aside0.mk hw1
   have TK := Aside0.mk htk
   have HM := Aside0.mk (show x.toNat < maxLen by unfold maxLen; have := HN.out; omega)
   have HP := Aside0.mk (show 0 ≤ x ∧ x < (l0.length : Int) from ⟨p0, hlt⟩)
   have c4b0 : decide (x < (l0.length : Int)) = true := decide_eq_true hlt
   have c5b0 : decide (0 ≤ x) = true := decide_eq_true p0
   cases eA
   replace hx0 := (HB.out.cell (World.block_lt_of_cell? w _ hx0)).trans hx0
   replace hx1 := (HB.out.cell (World.block_lt_of_cell? w _ hx1)).trans hx1
   replace p0 := eq_true p0
   replace hlt := eq_true hlt
   clear hmem htk hsz hkey hw1 HX
   go_upto_region 6 with (first | ((with_reducible refine gate_dst (N := 6) rfl ?_); refine box_event ?hg (N := 6) ?hd (cs := #[.string (⟨#[]⟩ : ByteArray), .int .i64 0]) (t := 51) ?hr ?_; (case hd => rfl); (case hg => rfl); (case hr => first | (go_simp; done) | (go_simp; rfl)); intro gb hg w8 hbox hb; have n0_ := Aside0.mk (Kd.R_below (Kd.R_elderB HO.out gb (Nat.le_of_eq hg.symm)) hb); have n1_ := Aside0.mk (below_step HB.out hb); have n2_ := Aside0.mk (hbox); have n3_ := Aside0.mk ((by rw [hg]; exact below_size HB.out : w.heap.size ≤ gb)); have n4_ := Aside0.mk (OWN.out.kept (grown_of_below hb none) (by simp)); have n5_ := Aside0.mk (show gb ≠ w.heap.size by rw [hg]; have := OWN.out.lt; omega); clear HO HB OWN; have HO := n0_; have HB := n1_; have BK := n2_; have GE := n3_; have OWN := n4_; have GNE := n5_; clear n0_ n1_ n2_ n3_ n4_ n5_; clear hb hbox hg; have hcz_0 : w8.cell? ⟨gb, 0, none⟩ = some (.string (⟨#[]⟩ : ByteArray)) := (blk_cell BK.out 0).trans rfl; have hcz_1 : w8.cell? ⟨gb, 1, none⟩ = some (.int .i64 0) := (blk_cell BK.out 1).trans rfl; have hfz_0 := blk_frozen BK.out 0; have hfz_1 := blk_frozen BK.out 1))
   have n0_ : Aside0 (Kd.R Kd.string 9 ((w8.setCell ⟨gb, 0, none⟩ (.string (rd_T51 l0 x).f0)).setCell ⟨gb, 1, none⟩ (.int .i64 (rd_T51 l0 x).f1)) w.heap.size (fun k => k ≠ w.heap.size ∧ k ≠ gb) u4 (accs (l0.take x.toNat))) := ⟨Kd.R_far (p := ⟨gb, 1, none⟩) (Kd.R_far (p := ⟨gb, 0, none⟩) HO.out (fun _ hk => hk.2) _) (fun _ hk => hk.2) _⟩
   have n1_ : Aside0 (((w8.setCell ⟨gb, 0, none⟩ (.string (rd_T51 l0 x).f0)).setCell ⟨gb, 1, none⟩ (.int .i64 (rd_T51 l0 x).f1)).heap[gb]? = some (.cells #[.string (rd_T51 l0 x).f0, .int .i64 (rd_T51 l0 x).f1] 51 (0, 0))) := ⟨blk_put (cs := #[.string (rd_T51 l0 x).f0, .int .i64 0]) (blk_put (cs := #[.string (⟨#[]⟩ : ByteArray), .int .i64 0]) BK.out 0 _ rfl) 1 _ rfl⟩
   have n2_ : Aside0 (Below w.heap.size w ((w8.setCell ⟨gb, 0, none⟩ (.string (rd_T51 l0 x).f0)).setCell ⟨gb, 1, none⟩ (.int .i64 (rd_T51 l0 x).f1))) := ⟨below_set (below_set HB.out GE.out) GE.out⟩
   have n3_ : Aside0 (((w8.setCell ⟨gb, 0, none⟩ (.string (rd_T51 l0 x).f0)).setCell ⟨gb, 1, none⟩ (.int .i64 (rd_T51 l0 x).f1)).ownsMap Try.prog 9 (plainElem (H := Unit) Try.prog 3) w.heap.size x.toNat D) := ⟨by
    obtain ⟨es, clock, hm1, hm2⟩ := OWN.out
    exact ⟨es, clock, (Below.heap_setCell _ ⟨gb, 1, none⟩ _ _ (Ne.symm GNE.out)).trans ((Below.heap_setCell _ ⟨gb, 0, none⟩ _ _ (Ne.symm GNE.out)).trans hm1), hm2⟩⟩
   clear HO BK HB OWN
   generalize ((w8.setCell ⟨gb, 0, none⟩ (.string (rd_T51 l0 x).f0)).setCell ⟨gb, 1, none⟩ (.int .i64 (rd_T51 l0 x).f1)) = w9 at n0_ n1_ n2_ n3_ ⊢
   have HO := n0_
   have BK := n1_
   have HB := n2_
   have OWN := n3_
   clear n0_ n1_ n2_ n3_
   try clear hcz_0
   try clear hcz_1
   try clear hfz_0
   try clear hfz_1
   have hb0 : w9.cell? ⟨gb, 0, none⟩ = some (.string (rd_T51 l0 x).f0) := (blk_cell BK.out 0).trans rfl
   have hb1 : w9.cell? ⟨gb, 1, none⟩ = some (.int .i64 (rd_T51 l0 x).f1) := (blk_cell BK.out 1).trans rfl
   by_cases hin : (rd_T51 l0 x).f0 ∈ accs (l0.take x.toNat)
   ·have hhas := GD.out.has_ _ hin
    have HIN := Aside0.mk hin
    clear hin
    go_wp2_with (first
     | (at_lookup; refine wpList_lookup_own_ok_int _ rfl _ _ 98 rfl 9 3 .i64 law9 Try.underlying98 Try.underlying3 (zero3 _) w.heap.size x.toNat D rfl OWN.out _ _ rfl KEY.out ?_; intro c hat hwc; obtain rfl := GoodM.read GD.out _ hat; clear hat hwc)
     | (at_lookup; refine wpList_lookup_own_int _ rfl _ _ 98 rfl 9 3 .i64 law9 Try.underlying98 Try.underlying3 (zero3 _) w.heap.size x.toNat D rfl OWN.out _ _ rfl KEY.out ?_; intro c hat hwc; obtain rfl := GoodM.read GD.out _ hat; clear hat hwc)
     | (at_mapUpdate; refine wpList_mapUpdate_own _ rfl _ _ _ 98 rfl 9 3 law9 Try.underlying98 _ w.heap.size x.toNat D rfl OWN.out HM.out _ _ _ rfl rfl KEY.out _ [] (plainElem_int Try.underlying3 (wrap64_wf _)) ?_; intro w11 hown1 hgrow1; have n0_ := Aside0.mk hown1; have n1_ := Aside0.mk hgrow1; clear hown1 hgrow1; have OWN1 := n0_; have GR1 := n1_; clear n0_ n1_))
    go_roundw
    case rel =>
     refine ⟨_, _, rfl, ⟨by rw [W1.out]; have := HP.out; omega⟩, ⟨by rw [W1.out, TK.out]; exact goodM_step GD.out _⟩, ⟨by rw [W1.out, show (x + 1).toNat = x.toNat + 1 by have := HP.out; omega]; exact OWN1.out⟩, ⟨?_⟩, ⟨HB.out.grown GR1.out HB.out.size (fun j hj => by cases hj; exact Nat.le_refl _)⟩⟩
     rw [W1.out, TK.out, accs_snoc, if_pos HIN.out]
     exact Kd.R_mono (Kd.R_grown HO.out GR1.out (fun k hk e => hk.1 (Option.some.inj e))) (fun k hk => hk.1)
    case measure =>
     have := HP.out
     rw [W1.out]
     simp [intOf]
     omega
   ·have hhas := GD.out.hasnt _ hin
    have HIN := Aside0.mk hin
    have HL := Aside0.mk (show (accs (l0.take x.toNat)).length ≤ 1000000 by have h1 := accs_len (l0.take x.toNat); rw [List.length_take] at h1; have := HN.out; omega)
    clear hin
    go_upto_region 9 with (first
     | (at_lookup; refine wpList_lookup_own_ok_int _ rfl _ _ 98 rfl 9 3 .i64 law9 Try.underlying98 Try.underlying3 (zero3 _) w.heap.size x.toNat D rfl OWN.out _ _ rfl KEY.out ?_; intro c hat hwc; obtain rfl := GoodM.read GD.out _ hat; clear hat hwc)
     | (at_lookup; refine wpList_lookup_own_int _ rfl _ _ 98 rfl 9 3 .i64 law9 Try.underlying98 Try.underlying3 (zero3 _) w.heap.size x.toNat D rfl OWN.out _ _ rfl KEY.out ?_; intro c hat hwc; obtain rfl := GoodM.read GD.out _ hat; clear hat hwc)
     | ((with_reducible refine gate_builtin (b := .append) (xs := #[.tmp 29, .tmp 32]) rfl ?_); at_builtin; refine Kd.R_append Kd.string (w0 := w) w.heap.size rfl (.tmp 29) (.tmp 32) 38 9 (.string ⟨#[]⟩) 16 rfl Try.underlying38 info9t rfl (by decide) (by omega) u4 (accs (l0.take x.toNat)) (rd_T51 l0 x).f0 [.string (rd_T51 l0 x).f0] (fun k => k ≠ w.heap.size ∧ k ≠ gb) (fun _ => False) rfl (by first | (go_simp; done) | (go_simp; rfl)) ?aP (fun _ hk => hk.elim) ?aF HO.out HB.out (below_size HB.out) ?aL ?_; (case aP => exact rfl); (case aF => exact (fun k hk => ⟨by have := OWN.out.lt; omega, by have := blk_lt BK.out; omega⟩)); (case aL => have := HL.out; omega); intro v10 w10 ho hb hg hn; have hgb : some gb ≠ u4.ownBlock := (fun e => (HO.out.1 gb e.symm).2 rfl); have hgm : some w.heap.size ≠ u4.ownBlock := (fun e => (HO.out.1 _ e.symm).1 rfl); have n0_ := Aside0.mk ho; have n1_ := Aside0.mk hb; have n2_ := Aside0.mk (OWN.out.kept hg hgm); have n3_ := Aside0.mk ((hg.block gb (blk_lt BK.out) hgb).trans BK.out); clear HO HB OWN BK hb0 hb1 ho hb hg hn hgb hgm; have HO := n0_; have HB := n1_; have OWN := n2_; have BK := n3_; clear n0_ n1_ n2_ n3_))
    have hb0 : w10.cell? ⟨gb, 0, none⟩ = some (.string (rd_T51 l0 x).f0) := (blk_cell BK.out 0).trans rfl
    have hb1 : w10.cell? ⟨gb, 1, none⟩ = some (.int .i64 (rd_T51 l0 x).f1) := (blk_cell BK.out 1).trans rfl
    go_wp2_with (first
     | (at_lookup; refine wpList_lookup_own_ok_int _ rfl _ _ 98 rfl 9 3 .i64 law9 Try.underlying98 Try.underlying3 (zero3 _) w.heap.size x.toNat D rfl OWN.out _ _ rfl KEY.out ?_; intro c hat hwc; obtain rfl := GoodM.read GD.out _ hat; clear hat hwc)
     | (at_lookup; refine wpList_lookup_own_int _ rfl _ _ 98 rfl 9 3 .i64 law9 Try.underlying98 Try.underlying3 (zero3 _) w.heap.size x.toNat D rfl OWN.out _ _ rfl KEY.out ?_; intro c hat hwc; obtain rfl := GoodM.read GD.out _ hat; clear hat hwc)
     | (at_mapUpdate; refine wpList_mapUpdate_own _ rfl _ _ _ 98 rfl 9 3 law9 Try.underlying98 _ w.heap.size x.toNat D rfl OWN.out HM.out _ _ _ rfl rfl KEY.out _ [] (plainElem_int Try.underlying3 (wrap64_wf _)) ?_; intro w11 hown1 hgrow1; have n0_ := Aside0.mk hown1; have n1_ := Aside0.mk hgrow1; clear hown1 hgrow1; have OWN1 := n0_; have GR1 := n1_; clear n0_ n1_))
    go_roundw
    case rel =>
     refine ⟨_, _, rfl, ⟨by rw [W1.out]; have := HP.out; omega⟩, ⟨by rw [W1.out, TK.out]; exact goodM_step GD.out _⟩, ⟨by rw [W1.out, show (x + 1).toNat = x.toNat + 1 by have := HP.out; omega]; exact OWN1.out⟩, ⟨?_⟩, ⟨HB.out.grown GR1.out HB.out.size (fun j hj => by cases hj; exact Nat.le_refl _)⟩⟩
     rw [W1.out, TK.out, accs_snoc, if_neg HIN.out]
     exact Kd.R_mono (Kd.R_grown HO.out GR1.out (fun k hk e => hk.1 (Option.some.inj e))) (fun k hk => hk.1)
    case measure =>
     have := HP.out
     rw [W1.out]
     simp [intOf]
     omega
  ·have hx : x = (l0.length : Int) := by have := HX.out; omega
   subst hx
   have c4b0 : decide ((l0.length : Int) < (l0.length : Int)) = false := decide_eq_false hlt
   have etk : l0.take (l0.length : Int).toNat = l0 := List.take_of_length_le (by omega)
   have n0_ := Aside0.mk (etk ▸ GD.out)
   have n1_ := Aside0.mk (etk ▸ HO.out)
   have n2_ : Aside0 (wr.ownsMap Try.prog 9 (plainElem (H := Unit) Try.prog 3) w.heap.size l0.length D) := ⟨by simpa using OWN.out⟩
   clear GD HO OWN HX hlt etk
   have GD := n0_
   have HO := n1_
   have OWN := n2_
   clear n0_ n1_ n2_
   obtain ⟨A4, c4, e4⟩ := Kd.R_slice HO.out
   subst e4
   have HL := Aside0.mk (show (accs l0).length ≤ 1000000 by have h1 := accs_len l0; have := HN.out; omega)
   go_upto_region 12 with (first | (go_at_call 79; refine (sort_calls (accs l0) A4 c4 _ w.heap.size _ HO.out HL.out).mono ?_; rintro e w3 ⟨rfl, hr, hg⟩))
   have n0_ := Aside0.mk hr
   have n1_ := Aside0.mk (OWN.out.kept hg (fun e => HO.out.1 _ e.symm rfl))
   have n2_ := Aside0.mk (HB.out.grown hg HB.out.size (fun j hj => Kd.R_base HO.out j hj))
   clear HO OWN HB hr hg
   have HS := n0_
   have OWN := n1_
   have HB := n2_
   clear n0_ n1_ n2_
   go_wp2_with (first | ((with_reducible refine gate_dst (N := 44) rfl ?_); refine Kd.R_lit k51 _ 51 ?hg (N := 44) ?hd (xs := ([] : List S51)) (inner := []) (ok := fun _ => True) (okp := fun _ => True) ?hr ?hp (fun _ hk => hk) trivial (Below.refl _ _) (Nat.le_refl _) (by simp) ?_; (case hd => rfl); (case hg => rfl); (case hr => first | (go_simp; done) | (go_simp; rfl)); (case hp => exact (Reps.none _ _)); intro v44 w4 ho hb hg_ hnew_; clear hnew_; have n0_ := Aside0.mk (Kd.R_mono (ok' := fun k => k ≠ w.heap.size ∧ some k ≠ (Value.slice A4 (accs l0).length c4).ownBlock) (Kd.R_lower (Kd.R_bound ho) (below_size HB.out)) (fun k hk => ⟨by have := hk.2.1; have := OWN.out.lt; omega, fun e => by have := hk.2.1; have := Kd.R_lt HS.out k e.symm; omega⟩)); have n1_ := Aside0.mk (below_step HB.out hb); have n2_ := Aside0.mk (OWN.out.kept hg_ (by simp)); have n3_ := Aside0.mk (Kd.R_below HS.out hb); clear HB OWN HS hg_; have HO := n0_; have HB := n1_; have OWN := n2_; have HS := n3_; clear n0_ n1_ n2_ n3_ hb ho))
   have hsl : (srt l0).length = (accs l0).length := srt_len l0
   have SL := Aside0.mk hsl
   clear hsl c4b0
   have HS' : Aside0 (Kd.R Kd.string 9 w4 w.heap.size (fun k => k ≠ w.heap.size) (.slice A4 (accs l0).length c4) (srt l0)) := HS
   clear HS
   go_loopw [9, 47] (fun v9 v47 wr => ∃ y : Int, v47 = .int .i64 y ∧ Aside0 (0 ≤ y ∧ y ≤ ((accs l0).length : Int)) ∧ Aside0 (wr.ownsMap Try.prog 9 (plainElem (H := Unit) Try.prog 3) w.heap.size l0.length D) ∧ Aside0 (Kd.R Kd.string 9 wr w.heap.size (fun k => k ≠ w.heap.size) (.slice A4 (accs l0).length c4) (srt l0)) ∧ Aside0 (Kd.R k51 51 wr w.heap.size (fun k => k ≠ w.heap.size ∧ some k ≠ (Value.slice A4 (accs l0).length c4).ownBlock) v9 (outE l0 ((srt l0).take y.toNat))) ∧ Aside0 (Below w.heap.size w wr)) (fun _ v47 _ => (accs l0).length - (intOf v47).toNat)
   case atStart => exact ⟨0, rfl, ⟨by omega⟩, OWN, HS', ⟨by simpa [outE] using HO.out⟩, HB⟩
   case round =>
    clear OWN HS' HO HB
    obtain ⟨y, rfl, HY, OWN, HS, HO, HB⟩ := hrel
    by_cases hlt : y < ((accs l0).length : Int)
    ·have p0 : 0 ≤ y := HY.out.1
     obtain ⟨ad, eA, hx0⟩ := Kd.at_string (Kd.R_reads' HS.out).2.2 y p0 (by rw [SL.out]; exact hlt)
     have hmem : rdOf ByteArray.empty (srt l0) y ∈ srt l0 := Go.Proofs.YtjhjeghgeclglaaEv.getD_mem _ _ _ (by have := SL.out; omega)
     have htk : (srt l0).take (y + 1).toNat = (srt l0).take y.toNat ++ [rdOf ByteArray.empty (srt l0) y] := by
      have := SL.out
      rw [show (y + 1).toNat = y.toNat + 1 by omega, List.take_succ_eq_append_getElem (by omega)]
      congr 1
      unfold rdOf
      rw [List.getD_eq_getElem?_getD, List.getElem?_eq_getElem (by omega)]
      rfl
     have hsz : (rdOf ByteArray.empty (srt l0) y).size ≤ 1000000000 := accs_all (fun a => a.size ≤ 1000000000) l0 (fun x hx => (HALL.out x hx).1) _ ((srt_mem l0 _).1 hmem)
     have hkey : keyOf Try.prog 9 (.string (rdOf ByteArray.empty (srt l0) y)) = some (.string (rdOf ByteArray.empty (srt l0) y).data.toList) := Go.WideMaps.keyOf_string_mk Try.underlying9 (by unfold maxLen; omega)
     have KEY := Aside0.mk hkey
     have hw1 : wrap64 (y + 1) = y + 1 := Go.Proofs.YtjhjeghgeclglaaEv.wrap_inc p0 hlt (by have := HL.out; omega)
     have W1 := Aside0.mk hw1
     have TK := Aside0.mk htk
     have HP := Aside0.mk (show 0 ≤ y ∧ y < ((accs l0).length : Int) from ⟨p0, hlt⟩)
     have c4b0 : decide (y < ((accs l0).length : Int)) = true := decide_eq_true hlt
     have c5b0 : decide (0 ≤ y) = true := decide_eq_true p0
     have hol := Aside0.mk (show (outE l0 ((srt l0).take y.toNat)).length ≤ 1000000 by have h1 := outE_len l0 ((srt l0).take y.toNat); rw [List.length_take] at h1; have := HL.out; have := SL.out; omega)
     subst eA
     replace p0 := eq_true p0
     replace hlt := eq_true hlt
     clear hmem htk hsz hkey hw1 HY
     by_cases hz : wrap64 (sumA (rdOf ByteArray.empty (srt l0) y) l0) = 0
     ·have hzb : (wrap64 (sumA (rdOf ByteArray.empty (srt l0) y) l0) != 0) = false := bne_eq_false_iff_eq.mpr hz
      have HZ := Aside0.mk hz
      clear hz
      go_wp2_with (first
       | (at_lookup; refine wpList_lookup_own_int _ rfl _ _ 98 rfl 9 3 .i64 law9 Try.underlying98 Try.underlying3 (zero3 _) w.heap.size l0.length D rfl OWN.out _ _ rfl KEY.out ?_; intro c hat hwc; obtain rfl := GoodM.read GD.out _ hat; clear hat hwc))
      go_roundw
      case rel =>
       refine ⟨_, rfl, ⟨by rw [W1.out]; have := HP.out; omega⟩, OWN, HS, ⟨?_⟩, HB⟩
       rw [W1.out, TK.out, outE_snoc, if_pos HZ.out]
       exact HO.out
      case measure =>
       have := HP.out
       rw [W1.out]
       simp [intOf]
       omega
     ·have hzb : (wrap64 (sumA (rdOf ByteArray.empty (srt l0) y) l0) != 0) = true := bne_iff_ne.mpr hz
      have HZ := Aside0.mk hz
      clear hz
      go_wp2_with (first
       | (at_lookup; refine wpList_lookup_own_int _ rfl _ _ 98 rfl 9 3 .i64 law9 Try.underlying98 Try.underlying3 (zero3 _) w.heap.size l0.length D rfl OWN.out _ _ rfl KEY.out ?_; intro c hat hwc; obtain rfl := GoodM.read GD.out _ hat; clear hat hwc)
       | ((with_reducible refine gate_builtin (b := .append) (xs := #[.tmp 55, .tmp 61]) rfl ?_); at_builtin; refine Kd.R_append k51 (w0 := w) w.heap.size rfl (.tmp 55) (.tmp 61) 41 51 (.agg #[(.string ⟨#[]⟩), (.int .i64 0)]) 24 rfl Try.underlying41 info51 rfl (by decide) (by omega) u9 (outE l0 ((srt l0).take y.toNat)) (⟨rdOf ByteArray.empty (srt l0) y, wrap64 (sumA (rdOf ByteArray.empty (srt l0) y) l0)⟩ : S51) [.string (rdOf ByteArray.empty (srt l0) y), .int .i64 (wrap64 (sumA (rdOf ByteArray.empty (srt l0) y) l0))] (fun k => k ≠ w.heap.size ∧ some k ≠ (Value.slice (some ad) (accs l0).length c4).ownBlock) (fun _ => False) rfl (by first | (go_simp; done) | (go_simp; rfl)) ?aP (fun _ hk => hk.elim) ?aF HO.out HB.out (below_size HB.out) ?aL ?_; (case aP => exact k51_mkM _ _ _ (⟨rdOf ByteArray.empty (srt l0) y, wrap64 (sumA (rdOf ByteArray.empty (srt l0) y) l0)⟩ : S51)); (case aF => exact (fun k hk => ⟨by have := OWN.out.lt; omega, fun e => by have := Kd.R_lt HS.out k e.symm; omega⟩)); (case aL => have := hol.out; omega); intro v10 w10 ho hb hg hn; have n0_ := Aside0.mk ho; have n1_ := Aside0.mk hb; have n2_ := Aside0.mk (OWN.out.kept hg (fun e => (HO.out.1 _ e.symm).1 rfl)); have n3_ := Aside0.mk (Kd.R_mono (Kd.R_grown (Kd.R_tight2 rfl HS.out) hg (fun k hk e => (HO.out.1 k e.symm).2 hk.1)) (fun k hk => hk.2)); clear HO HB OWN HS ho hb hg hn; have HO := n0_; have HB := n1_; have OWN := n2_; have HS := n3_; clear n0_ n1_ n2_ n3_))
      go_roundw
      case rel =>
       refine ⟨_, rfl, ⟨by rw [W1.out]; have := HP.out; omega⟩, OWN, HS, ⟨?_⟩, HB⟩
       rw [W1.out, TK.out, outE_snoc, if_neg HZ.out]
       exact HO.out
      case measure =>
       have := HP.out
       rw [W1.out]
       simp [intOf]
       omega
    ·have hy : y = ((accs l0).length : Int) := by have := HY.out; omega
     subst hy
     have c4b0 : decide (((accs l0).length : Int) < ((accs l0).length : Int)) = false := decide_eq_false hlt
     have etk : (srt l0).take (((accs l0).length : Int)).toNat = srt l0 := List.take_of_length_le (by have := SL.out; omega)
     have n0_ := Aside0.mk (show Kd.R k51 51 wr w.heap.size (fun _ => True) u9 (addAll [] l0) from TE.out ▸ (Kd.R_mono (etk ▸ HO.out) (fun _ _ => trivial)))
     clear hlt etk HO HY
     go_wp2
     go_ret
     exact ⟨_, rfl, n0_.out, HB.out⟩
end

/-! ### impl_EliminationOf: function 30 -/
def impl_EliminationOf.l0 : Nat → List (S51) → List (S81) → Int → Int → Option ((List (S51)))
 | 0, _, _, _, _ => none
 | k + 1, x5, x14, x15, x16 => if x16 < x15 then (if 0 ≤ x16 then (if x16 < (x14.length : Int) then ((some (([(⟨(⟨#[83, 65, 76, 69, 83]⟩ : ByteArray), (rd_T81 x14 x16).f2⟩ : S51), (⟨(⟨#[67, 79, 83, 84]⟩ : ByteArray), wrap64 (-((rd_T81 x14 x16).f2))⟩ : S51), (⟨(⟨#[67, 76, 65, 73, 77, 83]⟩ : ByteArray), wrap64 (-((rd_T81 x14 x16).f3))⟩ : S51), (⟨(⟨#[68, 69, 66, 84, 83]⟩ : ByteArray), (rd_T81 x14 x16).f3⟩ : S51)] : List (S51)) : List (S51))).bind fun y206 => (if x5.length + y206.length < 5864062014805 then (impl_EliminationOf.l0 k (x5 ++ y206) x14 x15 (wrap64 (x16 + 1))) else (none))) else (none)) else (none)) else ((impl_totals.f k x5).bind fun t212 => (some t212))
def impl_EliminationOf.f (k : Nat) (l0 : List (S81)) (a1 : Int) : Option ((List (S51))) := (some (([] : List (S51)) : List (S51))).bind fun y200 => ((impl_AreDealings.f k l0 a1).bind fun t203 => (if t203 = true then (impl_EliminationOf.l0 k y200 l0 (l0.length : Int) 0) else (some y200)))
theorem impl_EliminationOf.mono_l : ∀ k, (∀ y0 y1 y2 y3, LeO (impl_EliminationOf.l0 k y0 y1 y2 y3) (impl_EliminationOf.l0 (k + 1) y0 y1 y2 y3))
 | 0 => fun _ _ _ _ r h => by simp [impl_EliminationOf.l0] at h
 | k + 1 => by
  have ih0 := impl_EliminationOf.mono_l k
  ·intro y0 y1 y2 y3
   unfold impl_EliminationOf.l0
   repeat' first
   | (with_reducible exact ih0 _ _ _ _)
   | (with_reducible exact impl_AreDealings.mono _ _ _)
   | (with_reducible exact impl_totals.mono _ _)
   | (with_reducible exact LeO.refl _)
   | (with_reducible exact LeO.none _)
   | (with_reducible refine LeO.ite ?_ ?_)
   | (with_reducible refine LeO.bind ?_ (fun _ => ?_))
   | exact ih0 _ _ _ _
   | exact impl_AreDealings.mono _ _ _
   | exact impl_totals.mono _ _
   | exact LeO.none _
   | refine LeO.ite ?_ ?_
   | refine LeO.bind ?_ (fun _ => ?_)
theorem impl_EliminationOf.mono : ∀ a0 a1 k, LeO (impl_EliminationOf.f k a0 a1) (impl_EliminationOf.f (k + 1) a0 a1) := by
 intro a0 a1 k
 have ih0 := impl_EliminationOf.mono_l k
 unfold impl_EliminationOf.f
 repeat' first
   | (with_reducible exact ih0 _ _ _ _)
   | (with_reducible exact impl_AreDealings.mono _ _ _)
   | (with_reducible exact impl_totals.mono _ _)
   | (with_reducible exact LeO.refl _)
   | (with_reducible exact LeO.none _)
   | (with_reducible refine LeO.ite ?_ ?_)
   | (with_reducible refine LeO.bind ?_ (fun _ => ?_))
   | exact ih0 _ _ _ _
   | exact impl_AreDealings.mono _ _ _
   | exact impl_totals.mono _ _
   | exact LeO.none _
   | refine LeO.ite ?_ ?_
   | refine LeO.bind ?_ (fun _ => ?_)
set_option maxHeartbeats 8000000 in
set_option maxRecDepth 100000 in
theorem impl_EliminationOf.calls (k : Nat) (A0 : Option Addr) (c0 : Nat) (l0 : List (S81)) (a1 : Int) (r : List (S51)) (w : World) (hr0 : Kd.C k81 w A0 l0.length l0) (hc0 : l0.length ≤ c0) (h : impl_EliminationOf.f k l0 a1 = some r) :
  Calls Try.prog 30 #[.slice A0 l0.length c0, .int .i64 a1] w fun e w' => ∃ v0_ : Value, e = .returned (v0_) ∧ Kd.R k51 51 w' w.heap.size (fun _ => True) v0_ r ∧ Below w.heap.size w w' := by
 have hu81 := Try.underlying81
 have hu51 := Try.underlying51
 have HR0 := Aside0.mk hr0
 have HC0 := Aside0.mk hc0
 clear hr0 hc0
 have HB := Aside0.mk (Below.refl w.heap.size w)
 have H : ((some (([] : List (S51)) : List (S51))).bind fun y200 => ((impl_AreDealings.f k l0 a1).bind fun t203 => (if t203 = true then (impl_EliminationOf.l0 k y200 l0 (l0.length : Int) 0) else (some y200)))) = some r := h
 clear h
 obtain ⟨y200, hy200⟩ : ∃ y_ : List (S51), y_ = (([] : List (S51))) := ⟨_, rfl⟩
 replace H : ((impl_AreDealings.f k l0 a1).bind fun t203 => (if t203 = true then (impl_EliminationOf.l0 k y200 l0 (l0.length : Int) 0) else (some y200))) = some r := by first | (rw [hy200]; with_reducible exact H) | (have H2_ := (Option.bind_some _ _).symm.trans H; rw [hy200]; with_reducible exact H2_) | (have H2_ := (Option.bind_some _ _).symm.trans H; with_reducible exact H2_) | with_reducible exact H | (rw [hy200]; exact H) | exact H
 have Ny200 := Aside0.mk hy200
 clear hy200
 replace H := Option.bind_eq_some_iff.mp H
 obtain ⟨t203, A30, H⟩ := H
 replace H : (if t203 = true then (impl_EliminationOf.l0 k y200 l0 (l0.length : Int) 0) else (some y200)) = some r := H
 have A3 := Aside0.mk A30
 clear A30
 by_cases c4 : t203 = true
 ·subst c4
  have H1 : (impl_EliminationOf.l0 k y200 l0 (l0.length : Int) 0) = some r := by rw [if_pos rfl] at H; exact H
  clear H
  have H := H1
  clear H1
  have H' := Aside0.mk H
  clear H
  go_enter Try.func30, Try.ntmps30
  go_wp2_with (first | ((with_reducible refine gate_dst (N := 8) rfl ?_); refine Kd.R_lit k51 _ 51 ?hg (N := 8) ?hd (xs := ([] : List (S51))) (inner := []) (ok := fun _ => True) (okp := fun _ => True) ?hr ?hp (fun _ hk => hk) trivial (Below.refl _ _) (Nat.le_refl _) (by simp) ?_; (case hd => rfl); (case hg => rfl); (case hr => first | (go_simp; done) | (go_simp; rfl)); (case hp => exact (Reps.none _ _)); intro v201 w5 ho6 hb hg_ hnew_; clear hg_ hnew_; (first | rw [← Ny200.out] at ho6 | (simp only [Int.reduceToNat] at ho6; rw [← Ny200.out] at ho6)); have n0_ := Aside0.mk (Kd.R_lower ho6 (below_size (by repeat (first | (with_reducible first | exact HB.out | apply below_alloc | apply pw_below_drewN | apply below_drew1) | exact HB.out)))); have n1_ := Aside0.mk (below_step (by repeat (first | (with_reducible first | exact HB.out | apply below_alloc | apply pw_below_drewN | apply below_drew1) | exact HB.out)) hb); clear HB; have HO202 := n0_; have HB := n1_; clear n0_ n1_; clear hb ho6) | ((with_reducible refine gate_callee (f := 62) rfl ?_); refine goesL_ (some 11) rfl rfl Try.func62 (by kernel_rfl) rfl #[.slice A0 l0.length c0, .int .i64 a1] rfl (by (try simp only [List.map_toArray, List.map_cons, List.map_nil]); first | done | rfl | (simp only [List.length_drop, List.length_take]; rfl)) ?_; (with_reducible refine (impl_AreDealings.calls k _ _ l0 a1 true _ ?side1 ?side2 A3.out).mono ?_); (case side1 => repeat (first | exact (Kd.C_below HR0.out HB.out) | (with_reducible refine Kd.C_alloc ?_ _) | (with_reducible refine Kd.C_drewN ?_ _) | (with_reducible refine Kd.C_drew ?_))); (case side2 => exact HC0.out); rintro e w7 ⟨rfl, hb⟩; refine ⟨_, rfl, ?_⟩; have n0_ := Aside0.mk (Kd.R_below (by (with_reducible repeat (first | apply Kd.R_alloc | apply Kd.R_drewN | apply Kd.R_drew)); exact HO202.out) hb); have n1_ := Aside0.mk (below_step (by repeat (first | (with_reducible first | exact HB.out | apply below_alloc | apply pw_below_drewN | apply below_drew1) | exact HB.out)) hb); clear HO202; clear HB; have HO202 := n0_; have HB := n1_; clear n0_ n1_; (try clear hb); (try clear hb2); (try clear hk); (try clear hi)))
  go_loopg [5, 16] k (fun kq v5 v16 w' => ∃ (x5_1 : List (S51)) (x16_1 : Int), v16 = .int .i64 x16_1 ∧ Aside0 (impl_EliminationOf.l0 kq x5_1 l0 (l0.length : Int) x16_1 = some r) ∧ Aside0 (kq ≤ k) ∧ Aside0 (Kd.R k51 51 w' w.heap.size (fun _ => True) v5 x5_1) ∧ Aside0 (Below w.heap.size w w'))
  case atStart => exact ⟨(y200), (0), (by first | rfl | (simp; done) | (simp [*]; done)), H', ⟨Nat.le_refl _⟩, ⟨by (with_reducible repeat (first | apply Kd.R_alloc | apply Kd.R_drewN | apply Kd.R_drew)); exact HO202.out⟩, ⟨by repeat (first | (with_reducible first | exact HB.out | apply below_alloc | apply pw_below_drewN | apply below_drew1) | exact HB.out)⟩⟩
  case round =>
   clear H'
   try clear p2
   try clear c3
   try clear c4
   try clear c6
   obtain ⟨x5_1, x16_1, rfl, HA, HK1, HO_5, HB⟩ := hrel
   cases gk with
   | zero => exact absurd HA.out (by simp [impl_EliminationOf.l0])
   | succ k1 =>
    have H := HA.out
    clear HA
    simp only [impl_EliminationOf.l0] at H
    by_cases c8 : x16_1 < (l0.length : Int)
    ·rw [if_pos c8] at H
     have c8b0 : decide (x16_1 < (l0.length : Int)) = true := decide_eq_true c8
     clear c8
     by_cases c9 : 0 ≤ x16_1
     ·rw [if_pos c9] at H
      have c9b0 : decide (0 ≤ x16_1) = true := decide_eq_true c9
      clear c9
      by_cases c10 : x16_1 < (l0.length : Int)
      ·rw [if_pos c10] at H
       have c10b0 : decide (x16_1 < (l0.length : Int)) = true := decide_eq_true c10
       clear c10
       obtain ⟨y206, hy206⟩ : ∃ y_ : List (S51), y_ = (([(⟨(⟨#[83, 65, 76, 69, 83]⟩ : ByteArray), (rd_T81 l0 x16_1).f2⟩ : S51), (⟨(⟨#[67, 79, 83, 84]⟩ : ByteArray), wrap64 (-((rd_T81 l0 x16_1).f2))⟩ : S51), (⟨(⟨#[67, 76, 65, 73, 77, 83]⟩ : ByteArray), wrap64 (-((rd_T81 l0 x16_1).f3))⟩ : S51), (⟨(⟨#[68, 69, 66, 84, 83]⟩ : ByteArray), (rd_T81 l0 x16_1).f3⟩ : S51)] : List (S51))) := ⟨_, rfl⟩
       replace H : (if x5_1.length + y206.length < 5864062014805 then (impl_EliminationOf.l0 k1 (x5_1 ++ y206) l0 (l0.length : Int) (wrap64 (x16_1 + 1))) else (none)) = some r := by first | (rw [hy206]; with_reducible exact H) | (have H2_ := (Option.bind_some _ _).symm.trans H; rw [hy206]; with_reducible exact H2_) | (have H2_ := (Option.bind_some _ _).symm.trans H; with_reducible exact H2_) | with_reducible exact H | (rw [hy206]; exact H) | exact H
       have Ny206 := Aside0.mk hy206
       clear hy206
       by_cases c11 : x5_1.length + y206.length < 5864062014805
       ·rw [if_pos c11] at H
        have LMc11 := Aside0.mk c11
        clear c11
        obtain ⟨y209, hy209⟩ : ∃ y_ : List (S51), y_ = (x5_1 ++ y206) := ⟨_, rfl⟩
        replace H : (impl_EliminationOf.l0 k1 y209 l0 (l0.length : Int) (wrap64 (x16_1 + 1))) = some r := by first | (rw [hy209]; with_reducible exact H) | (have H2_ := (Option.bind_some _ _).symm.trans H; rw [hy209]; with_reducible exact H2_) | (have H2_ := (Option.bind_some _ _).symm.trans H; with_reducible exact H2_) | with_reducible exact H | (rw [hy209]; exact H) | exact H
        have Ny209 := Aside0.mk hy209
        clear hy209
        have H' := Aside0.mk H
        clear H
        have p204 : 0 ≤ (x16_1 : Int) := of_decide_eq_true (by first | (with_reducible assumption) | assumption)
        have q204 : x16_1 < (l0.length : Int) := of_decide_eq_true (by first | (with_reducible assumption) | assumption)
        obtain ⟨ad204, e204, hx204_0, hx204_1, hx204_2, hx204_3⟩ := at_T81 HR0.out x16_1 p204 q204
        cases e204
        replace hx204_0 := (HB.out.cell (World.block_lt_of_cell? w _ hx204_0)).trans hx204_0
        replace hx204_1 := (HB.out.cell (World.block_lt_of_cell? w _ hx204_1)).trans hx204_1
        replace hx204_2 := (HB.out.cell (World.block_lt_of_cell? w _ hx204_2)).trans hx204_2
        replace hx204_3 := (HB.out.cell (World.block_lt_of_cell? w _ hx204_3)).trans hx204_3
        replace p204 := eq_true p204
        replace q204 := eq_true q204
        go_wp2_with (first | ((with_reducible refine gate_dst (N := 7) rfl ?_); refine box_event ?hg (N := 7) ?hd (cs := #[.int .i64 0, .int .i64 0, .int .i64 0, .int .i64 0]) (t := 81) ?hr ?_; (case hd => rfl); (case hg => rfl); (case hr => first | (go_simp; done) | (go_simp; rfl)); intro gb205 hg w12 hbox hb; have n0_ := Aside0.mk (Kd.R_below (by (with_reducible repeat (first | apply Kd.R_alloc | apply Kd.R_drewN | apply Kd.R_drew)); exact HO_5.out) hb); have n1_ := Aside0.mk (below_step (by repeat (first | (with_reducible first | exact HB.out | apply below_alloc | apply pw_below_drewN | apply below_drew1) | exact HB.out)) hb); have n2_ := Aside0.mk (hbox); have n3_ := Aside0.mk ((by rw [hg]; exact (below_size (by repeat (first | (with_reducible first | exact HB.out | apply below_alloc | apply pw_below_drewN | apply below_drew1) | exact HB.out))) : w.heap.size ≤ gb205)); have n4_ := Aside0.mk ((by rw [hg]; exact (below_size (by repeat (first | (with_reducible first | exact HB.out | apply below_alloc | apply pw_below_drewN | apply below_drew1) | exact HB.out))) : w.heap.size ≤ gb205)); clear HO_5; clear HB; have HO_5 := n0_; have HB := n1_; have BK205 := n2_; have GW205 := n3_; have GE205 := n4_; clear n0_ n1_ n2_ n3_ n4_; clear hb hbox hg; have hcz13_0 : w12.cell? ⟨gb205, 0, none⟩ = some (.int .i64 0) := (blk_cell BK205.out 0).trans rfl; have hcz13_1 : w12.cell? ⟨gb205, 1, none⟩ = some (.int .i64 0) := (blk_cell BK205.out 1).trans rfl; have hcz13_2 : w12.cell? ⟨gb205, 2, none⟩ = some (.int .i64 0) := (blk_cell BK205.out 2).trans rfl; have hcz13_3 : w12.cell? ⟨gb205, 3, none⟩ = some (.int .i64 0) := (blk_cell BK205.out 3).trans rfl; have hfz13_0 := blk_frozen BK205.out 0; have hfz13_1 := blk_frozen BK205.out 1; have hfz13_2 := blk_frozen BK205.out 2; have hfz13_3 := blk_frozen BK205.out 3) | ((with_reducible refine gate_dst (N := 35) rfl ?_); refine Kd.R_lit k51 _ 51 ?hg (N := 35) ?hd (xs := ([(⟨(⟨#[83, 65, 76, 69, 83]⟩ : ByteArray), (rd_T81 l0 x16_1).f2⟩ : S51), (⟨(⟨#[67, 79, 83, 84]⟩ : ByteArray), wrap64 (-((rd_T81 l0 x16_1).f2))⟩ : S51), (⟨(⟨#[67, 76, 65, 73, 77, 83]⟩ : ByteArray), wrap64 (-((rd_T81 l0 x16_1).f3))⟩ : S51), (⟨(⟨#[68, 69, 66, 84, 83]⟩ : ByteArray), (rd_T81 l0 x16_1).f3⟩ : S51)] : List (S51))) (inner := [.string (⟨#[83, 65, 76, 69, 83]⟩ : ByteArray), .int .i64 ((rd_T81 l0 x16_1).f2), .string (⟨#[67, 79, 83, 84]⟩ : ByteArray), .int .i64 (wrap64 (-((rd_T81 l0 x16_1).f2))), .string (⟨#[67, 76, 65, 73, 77, 83]⟩ : ByteArray), .int .i64 (wrap64 (-((rd_T81 l0 x16_1).f3))), .string (⟨#[68, 69, 66, 84, 83]⟩ : ByteArray), .int .i64 ((rd_T81 l0 x16_1).f3)]) (ok := fun _ => True) (okp := fun _ => True) ?hr ?hp (fun _ hk => hk) trivial (Below.refl _ _) (Nat.le_refl _) (by simp) ?_; (case hd => rfl); (case hg => rfl); (case hr => first | (go_simp; done) | (go_simp; rfl)); (case hp => exact (Reps.c2 (show Kd.M k51 _ _ _ (⟨(⟨#[83, 65, 76, 69, 83]⟩ : ByteArray), (rd_T81 l0 x16_1).f2⟩ : S51) [.string (⟨#[83, 65, 76, 69, 83]⟩ : ByteArray), .int .i64 ((rd_T81 l0 x16_1).f2)] from (k51_mkM _ _ _ (⟨(⟨#[83, 65, 76, 69, 83]⟩ : ByteArray), (rd_T81 l0 x16_1).f2⟩ : S51) )) (Reps.c2 (show Kd.M k51 _ _ _ (⟨(⟨#[67, 79, 83, 84]⟩ : ByteArray), wrap64 (-((rd_T81 l0 x16_1).f2))⟩ : S51) [.string (⟨#[67, 79, 83, 84]⟩ : ByteArray), .int .i64 (wrap64 (-((rd_T81 l0 x16_1).f2)))] from (k51_mkM _ _ _ (⟨(⟨#[67, 79, 83, 84]⟩ : ByteArray), wrap64 (-((rd_T81 l0 x16_1).f2))⟩ : S51) )) (Reps.c2 (show Kd.M k51 _ _ _ (⟨(⟨#[67, 76, 65, 73, 77, 83]⟩ : ByteArray), wrap64 (-((rd_T81 l0 x16_1).f3))⟩ : S51) [.string (⟨#[67, 76, 65, 73, 77, 83]⟩ : ByteArray), .int .i64 (wrap64 (-((rd_T81 l0 x16_1).f3)))] from (k51_mkM _ _ _ (⟨(⟨#[67, 76, 65, 73, 77, 83]⟩ : ByteArray), wrap64 (-((rd_T81 l0 x16_1).f3))⟩ : S51) )) (Reps.c2 (show Kd.M k51 _ _ _ (⟨(⟨#[68, 69, 66, 84, 83]⟩ : ByteArray), (rd_T81 l0 x16_1).f3⟩ : S51) [.string (⟨#[68, 69, 66, 84, 83]⟩ : ByteArray), .int .i64 ((rd_T81 l0 x16_1).f3)] from (k51_mkM _ _ _ (⟨(⟨#[68, 69, 66, 84, 83]⟩ : ByteArray), (rd_T81 l0 x16_1).f3⟩ : S51) )) (Reps.none _ _)))))); intro v207 w14 ho15 hb hg_ hnew_; clear hg_ hnew_; (first | rw [← Ny206.out] at ho15 | (simp only [Int.reduceToNat] at ho15; rw [← Ny206.out] at ho15)); have n0_ := Aside0.mk (Kd.R_elder' (by (with_reducible repeat (first | apply Kd.R_alloc | apply Kd.R_drewN | apply Kd.R_drew)); exact (Kd.R_mono (Kd.R_far (p := ⟨gb205, 3, none⟩) (Kd.R_far (p := ⟨gb205, 2, none⟩) (Kd.R_far (p := ⟨gb205, 1, none⟩) (Kd.R_far (p := ⟨gb205, 0, none⟩) (Kd.R_types HO_5.out BK205.out (by decide)) (fun _ hk => hk.2) (.int .i64 ((rd_T81 l0 x16_1).f0))) (fun _ hk => hk.2) (.int .i64 ((rd_T81 l0 x16_1).f1))) (fun _ hk => hk.2) (.int .i64 ((rd_T81 l0 x16_1).f2))) (fun _ hk => hk.2) (.int .i64 ((rd_T81 l0 x16_1).f3))) (fun _ h_ => h_.1))) (Kd.R_base ho15) hb); have n1_ := Aside0.mk (Kd.R_lower (Kd.R_new' ho15 (Kd.R_lt (by (with_reducible repeat (first | apply Kd.R_alloc | apply Kd.R_drewN | apply Kd.R_drew)); exact (Kd.R_mono (Kd.R_far (p := ⟨gb205, 3, none⟩) (Kd.R_far (p := ⟨gb205, 2, none⟩) (Kd.R_far (p := ⟨gb205, 1, none⟩) (Kd.R_far (p := ⟨gb205, 0, none⟩) (Kd.R_types HO_5.out BK205.out (by decide)) (fun _ hk => hk.2) (.int .i64 ((rd_T81 l0 x16_1).f0))) (fun _ hk => hk.2) (.int .i64 ((rd_T81 l0 x16_1).f1))) (fun _ hk => hk.2) (.int .i64 ((rd_T81 l0 x16_1).f2))) (fun _ hk => hk.2) (.int .i64 ((rd_T81 l0 x16_1).f3))) (fun _ h_ => h_.1))))) (below_size (by repeat (first | (with_reducible first | exact HB.out | apply below_alloc | apply pw_below_drewN | apply below_drew1 | refine below_set ?_ GE205.out) | exact HB.out)))); have n2_ := Aside0.mk (blk_below (g := gb205) (o := .cells #[.int .i64 ((rd_T81 l0 x16_1).f0), .int .i64 ((rd_T81 l0 x16_1).f1), .int .i64 ((rd_T81 l0 x16_1).f2), .int .i64 ((rd_T81 l0 x16_1).f3)] 81 (0, 0)) (by (with_reducible repeat (first | refine blk_drewN ?_ _ | refine blk_drew ?_ | refine blk_alloc ?_ _)); refine blk_put (cs := #[.int .i64 ((rd_T81 l0 x16_1).f0), .int .i64 ((rd_T81 l0 x16_1).f1), .int .i64 ((rd_T81 l0 x16_1).f2), .int .i64 0]) ?_ 3 _ rfl; (with_reducible repeat (first | refine blk_drewN ?_ _ | refine blk_drew ?_ | refine blk_alloc ?_ _)); refine blk_put (cs := #[.int .i64 ((rd_T81 l0 x16_1).f0), .int .i64 ((rd_T81 l0 x16_1).f1), .int .i64 0, .int .i64 0]) ?_ 2 _ rfl; (with_reducible repeat (first | refine blk_drewN ?_ _ | refine blk_drew ?_ | refine blk_alloc ?_ _)); refine blk_put (cs := #[.int .i64 ((rd_T81 l0 x16_1).f0), .int .i64 0, .int .i64 0, .int .i64 0]) ?_ 1 _ rfl; (with_reducible repeat (first | refine blk_drewN ?_ _ | refine blk_drew ?_ | refine blk_alloc ?_ _)); refine blk_put (cs := #[.int .i64 0, .int .i64 0, .int .i64 0, .int .i64 0]) ?_ 0 _ rfl; (with_reducible repeat (first | refine blk_drewN ?_ _ | refine blk_drew ?_ | refine blk_alloc ?_ _)); exact BK205.out) hb); have n3_ := Aside0.mk (below_step (by repeat (first | (with_reducible first | exact HB.out | apply below_alloc | apply pw_below_drewN | apply below_drew1 | refine below_set ?_ GE205.out) | exact HB.out)) hb); clear HO_5; clear BK205; clear HB; have HO_5 := n0_; have HO208 := n1_; have BK205 := n2_; have HB := n3_; clear n0_ n1_ n2_ n3_; clear hb ho15; obtain ⟨Ao17, co17, eo17⟩ := Kd.R_slice HO208.out; subst eo17) | ((with_reducible refine gate_builtin (b := .append) (xs := #[.tmp 20, .tmp 35]) rfl ?_); at_builtin; refine Kd.R_append_rows k51 (w0 := w) w.heap.size rfl (.tmp 20) (.tmp 35) 41 51 (.agg #[(.string ⟨#[]⟩), (.int .i64 0)]) 24 rfl Try.underlying41 info51 rfl (by decide) (by omega) u5 x5_1 y206 _ _ _ (fun k_ => some k_ ≠ (.slice Ao17 y206.length co17 : Value).ownBlock) (fun _ => False) rfl rfl ?aO ?aR (fun _ _ h => h) (fun _ h => h.elim) ?aF ?aB ?aS ?aL ?_; (case aR => repeat (first | exact (Kd.R_reads' HO208.out).2.2 | (with_reducible refine Kd.C_alloc ?_ _) | (with_reducible refine Kd.C_drewN ?_ _) | (with_reducible refine Kd.C_drew ?_))); (case aB => exact (by repeat (first | (with_reducible first | exact HB.out | apply below_alloc | apply pw_below_drewN | apply below_drew1 | refine below_set ?_ GE205.out) | exact HB.out))); (case aF => exact (fun k_ hk => Kd.fresh' (Kd.R_lt (by (with_reducible repeat (first | apply Kd.R_alloc | apply Kd.R_drewN | apply Kd.R_drew)); exact HO208.out)) k_ hk)); (case aO => exact (by (with_reducible repeat (first | apply Kd.R_alloc | apply Kd.R_drewN | apply Kd.R_drew)); exact Kd.R_mono HO_5.out (fun _ hk => hk.2))); (case aS => exact (below_size (by repeat (first | (with_reducible first | exact HB.out | apply below_alloc | apply pw_below_drewN | apply below_drew1 | refine below_set ?_ GE205.out) | exact HB.out)))); (case aL => have := LMc11.out; omega); intro v210 w16 ho hb hg hat; rw [← Ny209.out] at ho; have n0_ := Aside0.mk (blk_grown (g := gb205) (o := .cells #[.int .i64 ((rd_T81 l0 x16_1).f0), .int .i64 ((rd_T81 l0 x16_1).f1), .int .i64 ((rd_T81 l0 x16_1).f2), .int .i64 ((rd_T81 l0 x16_1).f3)] 81 (0, 0)) (by (with_reducible repeat (first | refine blk_drewN ?_ _ | refine blk_drew ?_ | refine blk_alloc ?_ _)); exact BK205.out) hg (Kd.R_ne HO_5.out BK205.out (by decide))); have n1_ := Aside0.mk (Kd.R_after (ok := (fun _ => True)) (by (with_reducible repeat (first | apply Kd.R_alloc | apply Kd.R_drewN | apply Kd.R_drew)); exact HO208.out) hg hat); have n2_ := Aside0.mk (hb); have n3_ := Aside0.mk (ho); clear BK205; clear HO208; clear HB; clear HO_5; have BK205 := n0_; have HO208 := n1_; have HB := n2_; have HO211 := n3_; clear n0_ n1_ n2_ n3_; clear ho hb hg hat))
        go_roundg k1
        case measure => have := HK1.out; omega
        case rel => exact ⟨(y209), (wrap64 (x16_1 + 1)), (by first | rfl | (simp; done) | (simp [*]; done)), H', ⟨by have := HK1.out; omega⟩, ⟨by (with_reducible repeat (first | apply Kd.R_alloc | apply Kd.R_drewN | apply Kd.R_drew)); exact Kd.R_mono HO211.out (fun _ hk => trivial)⟩, ⟨by repeat (first | (with_reducible first | exact HB.out | apply below_alloc | apply pw_below_drewN | apply below_drew1 | refine below_set ?_ GE205.out) | exact HB.out)⟩⟩
       ·rw [if_neg c11] at H
        exact absurd H (by simp)
      ·rw [if_neg c10] at H
       exact absurd H (by simp)
     ·rw [if_neg c9] at H
      exact absurd H (by simp)
    ·rw [if_neg c8] at H
     have c8b0 : decide (x16_1 < (l0.length : Int)) = false := decide_eq_false c8
     clear c8
     replace H := Option.bind_eq_some_iff.mp H
     obtain ⟨t212, A180, H⟩ := H
     replace H : (some t212) = some r := H
     have A18 := Aside0.mk A180
     clear A180
     obtain rfl := Option.some.inj H
     obtain ⟨Ao19, co19, eo19⟩ := Kd.R_slice HO_5.out
     subst eo19
     go_wp2_with (first | ((with_reducible refine gate_callee (f := 63) rfl ?_); refine goesL_ (some 39) rfl rfl Try.func63 (by kernel_rfl) rfl #[.slice Ao19 x5_1.length co19] rfl (by (try simp only [List.map_toArray, List.map_cons, List.map_nil]); first | done | rfl | (simp only [List.length_drop, List.length_take]; rfl)) ?_; (with_reducible refine (impl_totals.calls k1 _ _ x5_1 t212 _ ?side1 ?side2 A18.out).mono ?_); (case side1 => repeat (first | exact (Kd.R_reads' HO_5.out).2.2 | (with_reducible refine Kd.C_alloc ?_ _) | (with_reducible refine Kd.C_drewN ?_ _) | (with_reducible refine Kd.C_drew ?_))); (case side2 => exact (Kd.R_reads' HO_5.out).2.1); rintro e w20 ⟨v213, rfl, ho0, hb⟩; refine ⟨_, rfl, ?_⟩; have n0_ := Aside0.mk (Kd.R_elder' (by (with_reducible repeat (first | apply Kd.R_alloc | apply Kd.R_drewN | apply Kd.R_drew)); exact HO_5.out) (Kd.R_base ho0) hb); have n1_ := Aside0.mk (Kd.R_lower (Kd.R_new' ho0 (Kd.R_lt (by (with_reducible repeat (first | apply Kd.R_alloc | apply Kd.R_drewN | apply Kd.R_drew)); exact HO_5.out))) (below_size (by repeat (first | (with_reducible first | exact HB.out | apply below_alloc | apply pw_below_drewN | apply below_drew1) | exact HB.out)))); have n2_ := Aside0.mk (below_step (by repeat (first | (with_reducible first | exact HB.out | apply below_alloc | apply pw_below_drewN | apply below_drew1) | exact HB.out)) hb); clear HO_5; clear HB; have HO_5 := n0_; have HO214 := n1_; have HB := n2_; clear n0_ n1_ n2_; (try clear hb); (try clear hb2); (try clear hk); (try clear hi); (try clear ho0)))
     go_ret
     exact ⟨_, by first | rfl | (simp [errW_none, errW_some] <;> rfl) | (simp [*, errW_none, errW_some] <;> rfl), by (with_reducible repeat (first | apply Kd.R_alloc | apply Kd.R_drewN | apply Kd.R_drew)); exact Kd.R_mono HO214.out (fun _ hk => trivial), by repeat (first | (with_reducible first | exact HB.out | apply below_alloc | apply pw_below_drewN | apply below_drew1) | exact HB.out)⟩
 ·replace c4 := Bool.eq_false_iff.mpr c4
  subst c4
  have H1 : (some y200) = some r := by rw [if_neg (show ¬ (false = true) by decide)] at H; exact H
  clear H
  have H := H1
  clear H1
  obtain rfl := Option.some.inj H
  go_enter Try.func30, Try.ntmps30
  go_wp2_with (first | ((with_reducible refine gate_dst (N := 8) rfl ?_); refine Kd.R_lit k51 _ 51 ?hg (N := 8) ?hd (xs := ([] : List (S51))) (inner := []) (ok := fun _ => True) (okp := fun _ => True) ?hr ?hp (fun _ hk => hk) trivial (Below.refl _ _) (Nat.le_refl _) (by simp) ?_; (case hd => rfl); (case hg => rfl); (case hr => first | (go_simp; done) | (go_simp; rfl)); (case hp => exact (Reps.none _ _)); intro v201 w21 ho22 hb hg_ hnew_; clear hg_ hnew_; (first | rw [← Ny200.out] at ho22 | (simp only [Int.reduceToNat] at ho22; rw [← Ny200.out] at ho22)); have n0_ := Aside0.mk (Kd.R_lower ho22 (below_size (by repeat (first | (with_reducible first | exact HB.out | apply below_alloc | apply pw_below_drewN | apply below_drew1) | exact HB.out)))); have n1_ := Aside0.mk (below_step (by repeat (first | (with_reducible first | exact HB.out | apply below_alloc | apply pw_below_drewN | apply below_drew1) | exact HB.out)) hb); clear HB; have HO202 := n0_; have HB := n1_; clear n0_ n1_; clear hb ho22) | ((with_reducible refine gate_callee (f := 62) rfl ?_); refine goesL_ (some 11) rfl rfl Try.func62 (by kernel_rfl) rfl #[.slice A0 l0.length c0, .int .i64 a1] rfl (by (try simp only [List.map_toArray, List.map_cons, List.map_nil]); first | done | rfl | (simp only [List.length_drop, List.length_take]; rfl)) ?_; (with_reducible refine (impl_AreDealings.calls k _ _ l0 a1 false _ ?side1 ?side2 A3.out).mono ?_); (case side1 => repeat (first | exact (Kd.C_below HR0.out HB.out) | (with_reducible refine Kd.C_alloc ?_ _) | (with_reducible refine Kd.C_drewN ?_ _) | (with_reducible refine Kd.C_drew ?_))); (case side2 => exact HC0.out); rintro e w23 ⟨rfl, hb⟩; refine ⟨_, rfl, ?_⟩; have n0_ := Aside0.mk (Kd.R_below (by (with_reducible repeat (first | apply Kd.R_alloc | apply Kd.R_drewN | apply Kd.R_drew)); exact HO202.out) hb); have n1_ := Aside0.mk (below_step (by repeat (first | (with_reducible first | exact HB.out | apply below_alloc | apply pw_below_drewN | apply below_drew1) | exact HB.out)) hb); clear HO202; clear HB; have HO202 := n0_; have HB := n1_; clear n0_ n1_; (try clear hb); (try clear hb2); (try clear hk); (try clear hi)))
  go_ret
  exact ⟨_, by first | rfl | (simp [errW_none, errW_some] <;> rfl) | (simp [*, errW_none, errW_some] <;> rfl), by (with_reducible repeat (first | apply Kd.R_alloc | apply Kd.R_drewN | apply Kd.R_drew)); exact HO202.out, by repeat (first | (with_reducible first | exact HB.out | apply below_alloc | apply pw_below_drewN | apply below_drew1) | exact HB.out)⟩

/-! ### spec_l1In: function 56 -/
def spec_l1In.f (a0 : Int) (a1 : Int) (a2 : Int) : Option (Bool) := if a0 ≥ a1 then (some (decide (a0 ≤ a2))) else (some false)
set_option maxHeartbeats 8000000 in
set_option maxRecDepth 100000 in
theorem spec_l1In.calls (a0 : Int) (a1 : Int) (a2 : Int) (r : Bool) (w : World) (h : spec_l1In.f a0 a1 a2 = some r) :
  Calls Try.prog 56 #[.int .i64 a0, .int .i64 a1, .int .i64 a2] w fun e w' => e = .returned (.bool r) ∧ Drawn0 w w' := by
 have H : (if a0 ≥ a1 then (some (decide (a0 ≤ a2))) else (some false)) = some r := h
 clear h
 by_cases c4 : a0 ≥ a1
 ·rw [if_pos c4] at H
  have c4b0 : decide (a1 ≤ a0) = true := decide_eq_true c4
  clear c4
  obtain rfl := Option.some.inj H
  go_enter Try.func56, Try.ntmps56
  go_wp2
  go_ret
  exact ⟨by first | rfl | (simp; done) | (simp [*]; done), by repeat (first | exact Drawn0.refl _ | apply Drawn0.step)⟩
 ·rw [if_neg c4] at H
  have c4b0 : decide (a1 ≤ a0) = false := decide_eq_false c4
  clear c4
  obtain rfl := Option.some.inj H
  go_enter Try.func56, Try.ntmps56
  go_wp2
  go_ret
  exact ⟨by first | rfl | (simp; done) | (simp [*]; done), by repeat (first | exact Drawn0.refl _ | apply Drawn0.step)⟩

end Go.Proofs.Ytjhjeghgeclglaa.PFnGroup
