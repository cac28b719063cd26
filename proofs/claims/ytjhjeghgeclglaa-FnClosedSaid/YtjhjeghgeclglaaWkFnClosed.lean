/- Plain laws for FnClosed (what the printed functions compute). -/
import Derived.Test.YtjhjeghgeclglaaPFnClosedx
import Derived.Test.YtjhjeghgeclglaaEv
import Derived.LoopN
import Derived.Deep.RegionHeld3
import Derived.Test.YtjhjeghgeclglaaMkFnClosed
namespace Go.Proofs.Ytjhjeghgeclglaa.PureFnClosed
open Go.RowKit Go.Proofs.Ytjhjeghgeclglaa.PFnClosed Go.Proofs.YtjhjeghgeclglaaW.PrintWords Go.Proofs.YtjhjeghgeclglaaW.PrintLast Go.Proofs.YtjhjeghgeclglaaW.PrintMore Go.Proofs.YtjhjeghgeclglaaEv
set_option linter.unusedVariables false
def sStock : ByteArray := ⟨#[83, 84, 79, 67, 75]⟩
def sCash : ByteArray := ⟨#[67, 65, 83, 72]⟩
def sWork : ByteArray := ⟨#[87, 79, 82, 75]⟩
def sSupply : ByteArray := ⟨#[83, 85, 80, 80, 76, 89]⟩
/-- What the law's calls answer, at one number of rounds. -/
structure ClosedOk (k : Nat) (c : List Int) (l x y : List S66) (day p e n0 n1 n2 n3 : Int) (o : Bool) (t1 t2 : List S51) : Prop where
 big : laws_big.f c = some false
 draw : spec_DrawClosePeriod.f k c = some (l, day)
 im : impl_ClosePeriod.f k l day = some (x, true)
 sp : spec_ClosePeriod.f k l day = some (x, true)
 x0 : spec_BalanceOf.f k x sCash day = some n0
 l0 : spec_BalanceOf.f k l sCash day = some n0
 x1 : spec_BalanceOf.f k x sStock day = some n1
 l1 : spec_BalanceOf.f k l sStock day = some n1
 x2 : spec_BalanceOf.f k x sWork day = some n2
 l2 : spec_BalanceOf.f k l sWork day = some n2
 x3 : spec_BalanceOf.f k x sSupply day = some n3
 l3 : spec_BalanceOf.f k l sSupply day = some n3
 co : impl_IsClosedOn.f k x day = some true
 xe : spec_BalanceOf.f k x sEquity day = some (wrap64 (e - p))
 le : spec_BalanceOf.f k l sEquity day = some e
 pr : impl_ProfitOn.f k l day = some p
 tx : day > 0 → spec_TrialBalance.f k x (wrap64 (day - 1)) = some t1
 tl : day > 0 → spec_TrialBalance.f k l (wrap64 (day - 1)) = some t1
 ts : laws_sameEntries.f k t1 t1 = some true
 re : impl_ReopenPeriod.f k x = some (y, o)
 fin : x.length = l.length ∨ p = 0 ∨ o = false ∨ (spec_TrialBalance.f k y 999 = some t2 ∧ spec_TrialBalance.f k l 999 = some t2 ∧ laws_sameEntries.f k t2 t2 = some true ∧ spec_AreDocuments.f k y = some true)
set_option maxHeartbeats 8000000 in
set_option maxRecDepth 100000 in
theorem law_calls (k : Nat) (A0 : Option Addr) (c0 : Nat) (c : List Int) (w : World) (hr0 : Kd.C (Kd.int .u8) w A0 c.length c) (hc0 : c.length ≤ c0)
  (l x y : List S66) (day p e n0 n1 n2 n3 : Int) (o : Bool) (t1 t2 : List S51) (h : ClosedOk k c l x y day p e n0 n1 n2 n3 o t1 t2) :
  Calls Try.prog 6 #[.slice A0 c.length c0] w fun e w' => e = .returned (.bool true) ∧ Below w.heap.size w w' := by
 have H := Aside0.mk h
 have R0 := Aside0.mk hr0
 have C0 := Aside0.mk hc0
 clear hr0 hc0 h
 go_enter Try.func6, Try.ntmps6
 go_wp2_with fail
 refine (laws_big.calls _ _ _ _ _ R0.out C0.out H.out.big).mono ?_
 rintro e w1 ⟨rfl, hd⟩
 have BB := Aside0.mk hd.below
 have R1 := Aside0.mk (Kd.C_below R0.out hd.below)
 clear hd R0
 go_wp2_with fail
 refine (spec_DrawClosePeriod.calls k _ _ _ _ _ _ R1.out C0.out H.out.draw).mono ?_
 rintro e w2 ⟨v2, rfl, hS, hb⟩
 obtain ⟨Al, cl, ev⟩ := Kd.S_slice hS
 subst ev
 have h' := Kd.S_reads' hS
 have CL := Aside0.mk h'.2.2
 have LL := Aside0.mk h'.2.1
 have BB2 := Aside0.mk (below_then BB.out BB.out.size hb)
 clear hS hb h' BB R1 C0
 -- x, is := impl.ClosePeriod(l, day)
 go_wp2_with fail
 refine (impl_ClosePeriod.calls k _ _ _ _ _ _ _ CL.out LL.out H.out.im).mono ?_
 rintro e w3 ⟨v3, rfl, hS, hb⟩
 obtain ⟨Ax, cx, ev⟩ := Kd.S_slice hS
 subst ev
 have h' := Kd.S_reads' hS
 have CX := Aside0.mk h'.2.2
 have LX := Aside0.mk h'.2.1
 have CL3 := Aside0.mk (Kd.C_below CL.out hb)
 have BB3 := Aside0.mk (below_then BB2.out BB2.out.size hb)
 clear hS hb h' BB2 CL
 -- _, told := spec.ClosePeriod(l, day)
 go_wp2_with fail
 refine (spec_ClosePeriod.calls k _ _ _ _ _ _ _ CL3.out LL.out H.out.sp).mono ?_
 rintro e w4 ⟨v4, rfl, hS, hb⟩
 have CX4 := Aside0.mk (Kd.C_below CX.out hb)
 have CL4 := Aside0.mk (Kd.C_below CL3.out hb)
 have BB4 := Aside0.mk (below_then BB3.out BB3.out.size hb)
 clear hS hb BB3 CL3 CX
 obtain ⟨W5, hW5⟩ : ∃ W5, W5 = w4.alloc (.cells #[.string ⟨#[67, 65, 83, 72]⟩, .string ⟨#[83, 84, 79, 67, 75]⟩, .string ⟨#[87, 79, 82, 75]⟩, .string ⟨#[83, 85, 80, 80, 76, 89]⟩] 9) := ⟨_, rfl⟩
 obtain ⟨bn, hbn⟩ : ∃ b, b = w4.heap.size := ⟨_, rfl⟩
 have B45 : Aside0 (Below w4.heap.size w4 W5) := ⟨by rw [hW5]; exact below_alloc (Below.refl _ _) _⟩
 have X5 : Aside0 (W5.heap[bn]? = some (.cells #[.string ⟨#[67, 65, 83, 72]⟩, .string ⟨#[83, 84, 79, 67, 75]⟩, .string ⟨#[87, 79, 82, 75]⟩, .string ⟨#[83, 85, 80, 80, 76, 89]⟩] 9)) := ⟨by rw [hW5, hbn]; exact heap_alloc_new w4 _⟩
 have CX5 := Aside0.mk (Kd.C_below CX4.out B45.out)
 have CL5 := Aside0.mk (Kd.C_below CL4.out B45.out)
 have BB5 := Aside0.mk (below_then BB4.out BB4.out.size B45.out)
 have HW5 := Aside0.mk hW5
 have HBN := Aside0.mk hbn
 clear hW5 hbn B45 CX4 CL4 BB4
 have nm0 : W5.cell? ⟨w4.heap.size, 0, none⟩ = some (.string ⟨#[67, 65, 83, 72]⟩) := by rw [← HBN.out]; exact blk_cell X5.out 0
 have nm1 : W5.cell? ⟨w4.heap.size, 1, none⟩ = some (.string ⟨#[83, 84, 79, 67, 75]⟩) := by rw [← HBN.out]; exact blk_cell X5.out 1
 have nm2 : W5.cell? ⟨w4.heap.size, 2, none⟩ = some (.string ⟨#[87, 79, 82, 75]⟩) := by rw [← HBN.out]; exact blk_cell X5.out 2
 have nm3 : W5.cell? ⟨w4.heap.size, 3, none⟩ = some (.string ⟨#[83, 85, 80, 80, 76, 89]⟩) := by rw [← HBN.out]; exact blk_cell X5.out 3
 go_wp2_with fail
 rw [← HW5.out]
 refine wp_loop_rounds 5 ?_
 rw [rounds_succ]
 go_wp2
 have hx_ := fun w' hC => spec_BalanceOf.calls k Ax cx x (⟨#[67, 65, 83, 72]⟩ : ByteArray) day n0 w' hC LX.out H.out.x0
 have hl_ := fun w' hC => spec_BalanceOf.calls k Al cl l (⟨#[67, 65, 83, 72]⟩ : ByteArray) day n0 w' hC LL.out H.out.l0
 go_region_held3 (fun w' => w'.cell? ⟨w4.heap.size, 0, none⟩ = some (.string ⟨#[67, 65, 83, 72]⟩) ∧ Below W5.heap.size W5 w')
  (first
   | (exact ⟨nm0, below_drew (Below.refl _ _)⟩)
   | (go_split_ands; exact ⟨pw_cell_below hb8 (by assumption), below_step (by assumption) hb8⟩)
   | (go_split_ands; exact ⟨pw_cell_below hb9 (by assumption), below_step (by assumption) hb9⟩)
   | go_keep)
  (first
   | (go_at_call 25; go_split_ands; (with_reducible refine (hx_ _ (Kd.C_below CX5.out ?hbw)).mono ?_); (case hbw => assumption); rintro e u1 ⟨rfl, hd8⟩; have hb8 := hd8.below)
   | (go_at_call 25; go_split_ands; (with_reducible refine (hl_ _ (Kd.C_below CL5.out ?hbw)).mono ?_); (case hbw => assumption); rintro e v1 ⟨rfl, hd9⟩; have hb9 := hd9.below))
 go_split_ands
 have hbN : Below W5.heap.size W5 v1 := by assumption
 have CX6 := Aside0.mk (Kd.C_below CX5.out hbN)
 have CL6 := Aside0.mk (Kd.C_below CL5.out hbN)
 have BB6 := Aside0.mk (below_then BB5.out BB5.out.size hbN)
 replace nm1 := pw_cell_below hbN nm1
 replace nm2 := pw_cell_below hbN nm2
 replace nm3 := pw_cell_below hbN nm3
 clear hx_ hl_ hb8 hd8 hb9 hd9 hbN nm0 CX5 CL5 BB5
 go_wp2
 rw [rounds_succ]
 go_wp2
 have hx_ := fun w' hC => spec_BalanceOf.calls k Ax cx x (⟨#[83, 84, 79, 67, 75]⟩ : ByteArray) day n1 w' hC LX.out H.out.x1
 have hl_ := fun w' hC => spec_BalanceOf.calls k Al cl l (⟨#[83, 84, 79, 67, 75]⟩ : ByteArray) day n1 w' hC LL.out H.out.l1
 go_region_held3 (fun w' => w'.cell? ⟨w4.heap.size, 1, none⟩ = some (.string ⟨#[83, 84, 79, 67, 75]⟩) ∧ Below v1.heap.size v1 w')
  (first
   | (exact ⟨nm1, below_drew (Below.refl _ _)⟩)
   | (go_split_ands; exact ⟨pw_cell_below hb8 (by assumption), below_step (by assumption) hb8⟩)
   | (go_split_ands; exact ⟨pw_cell_below hb9 (by assumption), below_step (by assumption) hb9⟩)
   | go_keep)
  (first
   | (go_at_call 25; go_split_ands; (with_reducible refine (hx_ _ (Kd.C_below CX6.out ?hbw)).mono ?_); (case hbw => assumption); rintro e u2 ⟨rfl, hd8⟩; have hb8 := hd8.below)
   | (go_at_call 25; go_split_ands; (with_reducible refine (hl_ _ (Kd.C_below CL6.out ?hbw)).mono ?_); (case hbw => assumption); rintro e v2 ⟨rfl, hd9⟩; have hb9 := hd9.below))
 go_split_ands
 have hbN : Below v1.heap.size v1 v2 := by assumption
 have CX7 := Aside0.mk (Kd.C_below CX6.out hbN)
 have CL7 := Aside0.mk (Kd.C_below CL6.out hbN)
 have BB7 := Aside0.mk (below_then BB6.out BB6.out.size hbN)
 replace nm2 := pw_cell_below hbN nm2
 replace nm3 := pw_cell_below hbN nm3
 clear hx_ hl_ hb8 hd8 hb9 hd9 hbN nm1 CX6 CL6 BB6
 go_wp2
 rw [rounds_succ]
 go_wp2
 have hx_ := fun w' hC => spec_BalanceOf.calls k Ax cx x (⟨#[87, 79, 82, 75]⟩ : ByteArray) day n2 w' hC LX.out H.out.x2
 have hl_ := fun w' hC => spec_BalanceOf.calls k Al cl l (⟨#[87, 79, 82, 75]⟩ : ByteArray) day n2 w' hC LL.out H.out.l2
 go_region_held3 (fun w' => w'.cell? ⟨w4.heap.size, 2, none⟩ = some (.string ⟨#[87, 79, 82, 75]⟩) ∧ Below v2.heap.size v2 w')
  (first
   | (exact ⟨nm2, below_drew (Below.refl _ _)⟩)
   | (go_split_ands; exact ⟨pw_cell_below hb8 (by assumption), below_step (by assumption) hb8⟩)
   | (go_split_ands; exact ⟨pw_cell_below hb9 (by assumption), below_step (by assumption) hb9⟩)
   | go_keep)
  (first
   | (go_at_call 25; go_split_ands; (with_reducible refine (hx_ _ (Kd.C_below CX7.out ?hbw)).mono ?_); (case hbw => assumption); rintro e u3 ⟨rfl, hd8⟩; have hb8 := hd8.below)
   | (go_at_call 25; go_split_ands; (with_reducible refine (hl_ _ (Kd.C_below CL7.out ?hbw)).mono ?_); (case hbw => assumption); rintro e v3 ⟨rfl, hd9⟩; have hb9 := hd9.below))
 go_split_ands
 have hbN : Below v2.heap.size v2 v3 := by assumption
 have CX8 := Aside0.mk (Kd.C_below CX7.out hbN)
 have CL8 := Aside0.mk (Kd.C_below CL7.out hbN)
 have BB8 := Aside0.mk (below_then BB7.out BB7.out.size hbN)
 replace nm3 := pw_cell_below hbN nm3
 clear hx_ hl_ hb8 hd8 hb9 hd9 hbN nm2 CX7 CL7 BB7
 go_wp2
 rw [rounds_succ]
 go_wp2
 have hx_ := fun w' hC => spec_BalanceOf.calls k Ax cx x (⟨#[83, 85, 80, 80, 76, 89]⟩ : ByteArray) day n3 w' hC LX.out H.out.x3
 have hl_ := fun w' hC => spec_BalanceOf.calls k Al cl l (⟨#[83, 85, 80, 80, 76, 89]⟩ : ByteArray) day n3 w' hC LL.out H.out.l3
 go_region_held3 (fun w' => w'.cell? ⟨w4.heap.size, 3, none⟩ = some (.string ⟨#[83, 85, 80, 80, 76, 89]⟩) ∧ Below v3.heap.size v3 w')
  (first
   | (exact ⟨nm3, below_drew (Below.refl _ _)⟩)
   | (go_split_ands; exact ⟨pw_cell_below hb8 (by assumption), below_step (by assumption) hb8⟩)
   | (go_split_ands; exact ⟨pw_cell_below hb9 (by assumption), below_step (by assumption) hb9⟩)
   | go_keep)
  (first
   | (go_at_call 25; go_split_ands; (with_reducible refine (hx_ _ (Kd.C_below CX8.out ?hbw)).mono ?_); (case hbw => assumption); rintro e u4 ⟨rfl, hd8⟩; have hb8 := hd8.below)
   | (go_at_call 25; go_split_ands; (with_reducible refine (hl_ _ (Kd.C_below CL8.out ?hbw)).mono ?_); (case hbw => assumption); rintro e v4 ⟨rfl, hd9⟩; have hb9 := hd9.below))
 go_split_ands
 have hbN : Below v3.heap.size v3 v4 := by assumption
 have CX9 := Aside0.mk (Kd.C_below CX8.out hbN)
 have CL9 := Aside0.mk (Kd.C_below CL8.out hbN)
 have BB9 := Aside0.mk (below_then BB8.out BB8.out.size hbN)
 clear hx_ hl_ hb8 hd8 hb9 hd9 hbN nm3 CX8 CL8 BB8
 go_wp2
 rw [rounds_succ]
 go_wp2_with fail
 refine (impl_IsClosedOn.calls k _ _ _ _ _ _ CX9.out LX.out H.out.co).mono ?_
 rintro e a1 ⟨rfl, hb⟩
 have CX10 := Aside0.mk (Kd.C_below CX9.out hb)
 have CL10 := Aside0.mk (Kd.C_below CL9.out hb)
 have BB10 := Aside0.mk (below_then BB9.out BB9.out.size hb)
 clear CX9 CL9 BB9
 clear hb
 go_wp2_with fail
 refine (spec_BalanceOf.calls k _ _ _ sEquity _ _ _ CX10.out LX.out H.out.xe).mono ?_
 rintro e a2 ⟨rfl, hd⟩
 have CX11 := Aside0.mk (Kd.C_below CX10.out hd.below)
 have CL11 := Aside0.mk (Kd.C_below CL10.out hd.below)
 have BB11 := Aside0.mk (below_then BB10.out BB10.out.size hd.below)
 clear CX10 CL10 BB10
 clear hd
 go_wp2_with fail
 refine (spec_BalanceOf.calls k _ _ _ sEquity _ _ _ CL11.out LL.out H.out.le).mono ?_
 rintro e a3 ⟨rfl, hd⟩
 have CX12 := Aside0.mk (Kd.C_below CX11.out hd.below)
 have CL12 := Aside0.mk (Kd.C_below CL11.out hd.below)
 have BB12 := Aside0.mk (below_then BB11.out BB11.out.size hd.below)
 clear CX11 CL11 BB11
 clear hd
 go_wp2_with fail
 refine (impl_ProfitOn.calls k _ _ _ _ _ _ CL12.out LL.out H.out.pr).mono ?_
 rintro e a4 ⟨rfl, hb⟩
 have CX13 := Aside0.mk (Kd.C_below CX12.out hb)
 have CL13 := Aside0.mk (Kd.C_below CL12.out hb)
 have BB13 := Aside0.mk (below_then BB12.out BB12.out.size hb)
 clear CX12 CL12 BB12
 clear hb
 have hne : (wrap64 (e - p) != wrap64 (e - p)) = false := bne_self_eq_false _
 by_cases hday : day > 0
 ·have TX := Aside0.mk (H.out.tx hday)
  have TL := Aside0.mk (H.out.tl hday)
  have hdb : decide (day > 0) = true := decide_eq_true hday
  clear hday
  go_wp2_with fail
  refine (spec_TrialBalance.calls k _ _ _ _ _ _ CX13.out LX.out TX.out).mono ?_
  rintro e b1 ⟨vt, rfl, hR, hb⟩
  obtain ⟨Ap, cp, ev⟩ := Kd.R_slice hR
  subst ev
  have h' := Kd.R_reads' hR
  have CP := Aside0.mk h'.2.2
  have LP := Aside0.mk h'.2.1
  have CX14 := Aside0.mk (Kd.C_below CX13.out hb)
  have CL14 := Aside0.mk (Kd.C_below CL13.out hb)
  have BB14 := Aside0.mk (below_then BB13.out BB13.out.size hb)
  clear CX13 CL13 BB13
  clear hR hb h'
  go_wp2_with fail
  refine (spec_TrialBalance.calls k _ _ _ _ _ _ CL14.out LL.out TL.out).mono ?_
  rintro e b2 ⟨vu, rfl, hR, hb⟩
  obtain ⟨Aq, cq, ev⟩ := Kd.R_slice hR
  subst ev
  have h' := Kd.R_reads' hR
  have CQ := Aside0.mk h'.2.2
  have LQ := Aside0.mk h'.2.1
  have CP2 := Aside0.mk (Kd.C_below CP.out hb)
  have CX15 := Aside0.mk (Kd.C_below CX14.out hb)
  have CL15 := Aside0.mk (Kd.C_below CL14.out hb)
  have BB15 := Aside0.mk (below_then BB14.out BB14.out.size hb)
  clear CX14 CL14 BB14
  clear hR hb h' CP
  go_wp2_with fail
  refine (laws_sameEntries.calls k _ _ _ _ _ _ _ _ CP2.out LP.out CQ.out LQ.out H.out.ts).mono ?_
  rintro e b3 ⟨rfl, hd⟩
  have CX16 := Aside0.mk (Kd.C_below CX15.out hd.below)
  have CL16 := Aside0.mk (Kd.C_below CL15.out hd.below)
  have BB16 := Aside0.mk (below_then BB15.out BB15.out.size hd.below)
  clear CX15 CL15 BB15
  clear hd CP2 LP CQ LQ TX TL
  go_wp2_with fail
  refine (impl_ReopenPeriod.calls k _ _ _ _ _ _ CX16.out LX.out H.out.re).mono ?_
  rintro e z1 ⟨vy, rfl, hS, hb⟩
  obtain ⟨Ay, cy, ev⟩ := Kd.S_slice hS
  subst ev
  have h' := Kd.S_reads' hS
  have CY17 := Aside0.mk h'.2.2
  have LY := Aside0.mk h'.2.1
  have CX17 := Aside0.mk (Kd.C_below CX16.out hb)
  have CL17 := Aside0.mk (Kd.C_below CL16.out hb)
  have BB17 := Aside0.mk (below_then BB16.out BB16.out.size hb)
  clear CX16 CL16 BB16
  clear hS hb h'
  by_cases hxl : x.length = l.length
  ·have hxb : ((x.length : Int) == (l.length : Int)) = true := by rw [hxl]; exact beq_self_eq_true _
   go_wp2_with fail
   go_ret
   exact ⟨rfl, BB17.out⟩
  have hxb : ((x.length : Int) == (l.length : Int)) = false := by rw [beq_eq_false_iff_ne]; omega
  go_wp2_with fail
  refine (impl_ProfitOn.calls k _ _ _ _ _ _ CL17.out LL.out H.out.pr).mono ?_
  rintro e z2 ⟨rfl, hb⟩
  have CX18 := Aside0.mk (Kd.C_below CX17.out hb)
  have CL18 := Aside0.mk (Kd.C_below CL17.out hb)
  have CY18 := Aside0.mk (Kd.C_below CY17.out hb)
  have BB18 := Aside0.mk (below_then BB17.out BB17.out.size hb)
  clear CX17 CL17 BB17 CY17
  clear hb
  by_cases hp : p = 0
  ·have hpb : (p == 0) = true := by simpa using hp
   clear hp
   go_wp2_with fail
   go_ret
   exact ⟨rfl, BB18.out⟩
  have hpb : (p == 0) = false := by simpa using hp
  cases o with
  | false =>
   go_wp2_with fail
   go_ret
   exact ⟨rfl, BB18.out⟩
  | true =>
   obtain ⟨f1, f2, f3, f4⟩ := ((H.out.fin.resolve_left hxl).resolve_left hp).resolve_left (by simp)
   have F1 := Aside0.mk f1
   have F2 := Aside0.mk f2
   have F3 := Aside0.mk f3
   have F4 := Aside0.mk f4
   clear f1 f2 f3 f4 hp
   go_wp2_with fail
   refine (spec_TrialBalance.calls k _ _ _ _ _ _ CY18.out LY.out F1.out).mono ?_
   rintro e z3 ⟨vt, rfl, hR, hb⟩
   obtain ⟨At, ct, ev⟩ := Kd.R_slice hR
   subst ev
   have h' := Kd.R_reads' hR
   have CT := Aside0.mk h'.2.2
   have LT := Aside0.mk h'.2.1
   have CX19 := Aside0.mk (Kd.C_below CX18.out hb)
   have CL19 := Aside0.mk (Kd.C_below CL18.out hb)
   have CY19 := Aside0.mk (Kd.C_below CY18.out hb)
   have BB19 := Aside0.mk (below_then BB18.out BB18.out.size hb)
   clear CX18 CL18 BB18 CY18
   clear hR hb h'
   go_wp2_with fail
   refine (spec_TrialBalance.calls k _ _ _ _ _ _ CL19.out LL.out F2.out).mono ?_
   rintro e z4 ⟨vu, rfl, hR, hb⟩
   obtain ⟨Au, cu, ev⟩ := Kd.R_slice hR
   subst ev
   have h' := Kd.R_reads' hR
   have CU := Aside0.mk h'.2.2
   have LU := Aside0.mk h'.2.1
   have CT2 := Aside0.mk (Kd.C_below CT.out hb)
   have CX20 := Aside0.mk (Kd.C_below CX19.out hb)
   have CL20 := Aside0.mk (Kd.C_below CL19.out hb)
   have CY20 := Aside0.mk (Kd.C_below CY19.out hb)
   have BB20 := Aside0.mk (below_then BB19.out BB19.out.size hb)
   clear CX19 CL19 BB19 CY19
   clear hR hb h' CT
   go_wp2_with fail
   refine (laws_sameEntries.calls k _ _ _ _ _ _ _ _ CT2.out LT.out CU.out LU.out F3.out).mono ?_
   rintro e z5 ⟨rfl, hd⟩
   have CX21 := Aside0.mk (Kd.C_below CX20.out hd.below)
   have CL21 := Aside0.mk (Kd.C_below CL20.out hd.below)
   have CY21 := Aside0.mk (Kd.C_below CY20.out hd.below)
   have BB21 := Aside0.mk (below_then BB20.out BB20.out.size hd.below)
   clear CX20 CL20 BB20 CY20
   clear hd
   go_wp2_with fail
   refine (spec_AreDocuments.calls k _ _ _ _ _ CY21.out LY.out F4.out).mono ?_
   rintro e z6 ⟨rfl, hd⟩
   have BBZ := below_then BB21.out BB21.out.size hd.below
   go_wp2_with fail
   go_ret
   exact ⟨rfl, BBZ⟩
 ·have hdb : decide (day > 0) = false := decide_eq_false hday
  clear hday
  go_wp2_with fail
  refine (impl_ReopenPeriod.calls k _ _ _ _ _ _ CX13.out LX.out H.out.re).mono ?_
  rintro e z1 ⟨vy, rfl, hS, hb⟩
  obtain ⟨Ay, cy, ev⟩ := Kd.S_slice hS
  subst ev
  have h' := Kd.S_reads' hS
  have CY14 := Aside0.mk h'.2.2
  have LY := Aside0.mk h'.2.1
  have CX14 := Aside0.mk (Kd.C_below CX13.out hb)
  have CL14 := Aside0.mk (Kd.C_below CL13.out hb)
  have BB14 := Aside0.mk (below_then BB13.out BB13.out.size hb)
  clear CX13 CL13 BB13
  clear hS hb h'
  by_cases hxl : x.length = l.length
  ·have hxb : ((x.length : Int) == (l.length : Int)) = true := by rw [hxl]; exact beq_self_eq_true _
   go_wp2_with fail
   go_ret
   exact ⟨rfl, BB14.out⟩
  have hxb : ((x.length : Int) == (l.length : Int)) = false := by rw [beq_eq_false_iff_ne]; omega
  go_wp2_with fail
  refine (impl_ProfitOn.calls k _ _ _ _ _ _ CL14.out LL.out H.out.pr).mono ?_
  rintro e z2 ⟨rfl, hb⟩
  have CX15 := Aside0.mk (Kd.C_below CX14.out hb)
  have CL15 := Aside0.mk (Kd.C_below CL14.out hb)
  have CY15 := Aside0.mk (Kd.C_below CY14.out hb)
  have BB15 := Aside0.mk (below_then BB14.out BB14.out.size hb)
  clear CX14 CL14 BB14 CY14
  clear hb
  by_cases hp : p = 0
  ·have hpb : (p == 0) = true := by simpa using hp
   clear hp
   go_wp2_with fail
   go_ret
   exact ⟨rfl, BB15.out⟩
  have hpb : (p == 0) = false := by simpa using hp
  cases o with
  | false =>
   go_wp2_with fail
   go_ret
   exact ⟨rfl, BB15.out⟩
  | true =>
   obtain ⟨f1, f2, f3, f4⟩ := ((H.out.fin.resolve_left hxl).resolve_left hp).resolve_left (by simp)
   have F1 := Aside0.mk f1
   have F2 := Aside0.mk f2
   have F3 := Aside0.mk f3
   have F4 := Aside0.mk f4
   clear f1 f2 f3 f4 hp
   go_wp2_with fail
   refine (spec_TrialBalance.calls k _ _ _ _ _ _ CY15.out LY.out F1.out).mono ?_
   rintro e z3 ⟨vt, rfl, hR, hb⟩
   obtain ⟨At, ct, ev⟩ := Kd.R_slice hR
   subst ev
   have h' := Kd.R_reads' hR
   have CT := Aside0.mk h'.2.2
   have LT := Aside0.mk h'.2.1
   have CX16 := Aside0.mk (Kd.C_below CX15.out hb)
   have CL16 := Aside0.mk (Kd.C_below CL15.out hb)
   have CY16 := Aside0.mk (Kd.C_below CY15.out hb)
   have BB16 := Aside0.mk (below_then BB15.out BB15.out.size hb)
   clear CX15 CL15 BB15 CY15
   clear hR hb h'
   go_wp2_with fail
   refine (spec_TrialBalance.calls k _ _ _ _ _ _ CL16.out LL.out F2.out).mono ?_
   rintro e z4 ⟨vu, rfl, hR, hb⟩
   obtain ⟨Au, cu, ev⟩ := Kd.R_slice hR
   subst ev
   have h' := Kd.R_reads' hR
   have CU := Aside0.mk h'.2.2
   have LU := Aside0.mk h'.2.1
   have CT2 := Aside0.mk (Kd.C_below CT.out hb)
   have CX17 := Aside0.mk (Kd.C_below CX16.out hb)
   have CL17 := Aside0.mk (Kd.C_below CL16.out hb)
   have CY17 := Aside0.mk (Kd.C_below CY16.out hb)
   have BB17 := Aside0.mk (below_then BB16.out BB16.out.size hb)
   clear CX16 CL16 BB16 CY16
   clear hR hb h' CT
   go_wp2_with fail
   refine (laws_sameEntries.calls k _ _ _ _ _ _ _ _ CT2.out LT.out CU.out LU.out F3.out).mono ?_
   rintro e z5 ⟨rfl, hd⟩
   have CX18 := Aside0.mk (Kd.C_below CX17.out hd.below)
   have CL18 := Aside0.mk (Kd.C_below CL17.out hd.below)
   have CY18 := Aside0.mk (Kd.C_below CY17.out hd.below)
   have BB18 := Aside0.mk (below_then BB17.out BB17.out.size hd.below)
   clear CX17 CL17 BB17 CY17
   clear hd
   go_wp2_with fail
   refine (spec_AreDocuments.calls k _ _ _ _ _ CY18.out LY.out F4.out).mono ?_
   rintro e z6 ⟨rfl, hd⟩
   have BBZ := below_then BB18.out BB18.out.size hd.below
   go_wp2_with fail
   go_ret
   exact ⟨rfl, BBZ⟩
def AllOk (k : Nat) (c : List Int) : Prop :=
 laws_big.f c = some true ∨ laws_big.f c = some false ∧
  ((∃ l day, spec_DrawClosePeriod.f k c = some (l, day) ∧ impl_ClosePeriod.f k l day = some ([], false) ∧ spec_ClosePeriod.f k l day = some ([], false)) ∨
   ∃ l x y day p e n0 n1 n2 n3 o t1 t2, ClosedOk k c l x y day p e n0 n1 n2 n3 o t1 t2)
set_option maxHeartbeats 8000000 in
set_option maxRecDepth 100000 in
theorem row_calls {k : Nat} {A0 : Option Addr} {c0 : Nat} {c : List Int} {w : World} (hr0 : Kd.C (Kd.int .u8) w A0 c.length c) (hc0 : c.length ≤ c0) (h : AllOk k c) :
  Calls Try.prog 6 #[.slice A0 c.length c0] w fun e w' => e = .returned (.bool true) ∧ Below w.heap.size w w' := by
 rcases h with h | ⟨hb0, ⟨l, day, h1, h2, h3⟩ | ⟨l, x, y, day, p, e, n0, n1, n2, n3, o, t1, t2, h⟩⟩
 ·have H := Aside0.mk h
  have R0 := Aside0.mk hr0
  have C0 := Aside0.mk hc0
  clear hr0 hc0 h
  go_enter Try.func6, Try.ntmps6
  go_wp2_with fail
  refine (laws_big.calls _ _ _ _ _ R0.out C0.out H.out).mono ?_
  rintro e w1 ⟨rfl, hd⟩
  have BB := Aside0.mk hd.below
  clear hd
  go_wp2_with fail
  go_ret
  exact ⟨rfl, BB.out⟩
 ·have H := Aside0.mk hb0
  have R0 := Aside0.mk hr0
  have C0 := Aside0.mk hc0
  have H1 := Aside0.mk h1
  have H2 := Aside0.mk h2
  have H3 := Aside0.mk h3
  clear hr0 hc0 hb0 h1 h2 h3
  go_enter Try.func6, Try.ntmps6
  go_wp2_with fail
  refine (laws_big.calls _ _ _ _ _ R0.out C0.out H.out).mono ?_
  rintro e w1 ⟨rfl, hd⟩
  have BB := Aside0.mk hd.below
  have R1 := Aside0.mk (Kd.C_below R0.out hd.below)
  clear hd R0
  go_wp2_with fail
  refine (spec_DrawClosePeriod.calls k _ _ _ _ _ _ R1.out C0.out H1.out).mono ?_
  rintro e w2 ⟨v2, rfl, hS, hb⟩
  obtain ⟨Al, cl, ev⟩ := Kd.S_slice hS
  subst ev
  have h' := Kd.S_reads' hS
  have CL := Aside0.mk h'.2.2
  have LL := Aside0.mk h'.2.1
  have BB2 := Aside0.mk (below_then BB.out BB.out.size hb)
  clear hS hb h' BB R1 C0
  go_wp2_with fail
  refine (impl_ClosePeriod.calls k _ _ _ _ _ _ _ CL.out LL.out H2.out).mono ?_
  rintro e w3 ⟨v3, rfl, hS, hb⟩
  obtain ⟨Ax, cx, ev⟩ := Kd.S_slice hS
  subst ev
  have CL3 := Aside0.mk (Kd.C_below CL.out hb)
  have BB3 := Aside0.mk (below_then BB2.out BB2.out.size hb)
  clear hS hb BB2 CL
  go_wp2_with fail
  refine (spec_ClosePeriod.calls k _ _ _ _ _ _ _ CL3.out LL.out H3.out).mono ?_
  rintro e w4 ⟨v4, rfl, hS, hb⟩
  have BB4 := Aside0.mk (below_then BB3.out BB3.out.size hb)
  clear hS hb BB3 CL3
  go_wp2_with fail
  go_ret
  exact ⟨rfl, BB4.out⟩
 ·exact law_calls k A0 c0 c w hr0 hc0 l x y day p e n0 n1 n2 n3 o t1 t2 h

end Go.Proofs.Ytjhjeghgeclglaa.PureFnClosed
