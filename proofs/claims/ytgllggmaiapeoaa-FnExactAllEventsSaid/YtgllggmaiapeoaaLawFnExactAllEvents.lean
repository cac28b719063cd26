/- Row of the law FnExactAllEvents: for every input the call returns true and each argument reads as it did. No condition. -/
import Derived.Test.YtgllggmaiapeoaaRows
import Derived.Test.YtgllggmaiapeoaaPFnExactAllEventsx
import Derived.Test.YtgllggmaiapeoaaPureFnExactAllEvents
import Derived.Test.YtgllggmaiapeoaaOpens
import Derived.WalkKit
import Derived.ProofKit
import Derived.OpenShut
import Derived.ShutString
import Derived.ChangeOld
import Derived.Below
import Derived.SizedLaws
import Derived.Lib.SmallJoins
namespace Go.Proofs.Ytgllggmaiapeoaa.fnExactAllEvents
open Go.ChangeShapes Go.WideShapes Go.ChangeAt Go.RowKit Go.Joins
open Go.ChangeMaps (open_string shut_string)
open Go.Proofs.YtgllggmaiapeoaaW.PrintWords Go.Proofs.YtgllggmaiapeoaaOpens Go.Proofs.Ytgllggmaiapeoaa.PFnExactAllEvents
set_option linter.unusedVariables false
theorem own : ownKnob Try.prog.godebug = none := by kernel_rfl
theorem laidOut : laidOutB Try.prog = true := by kernel_rfl
instance : Inhabited S76 := ⟨z76⟩
instance : Inhabited S84 := ⟨z84⟩
set_option maxRecDepth 100000 in
theorem lifted (os : Os) (started : os.Started) (H : Type) (enc : TypeId × Value → H) :
    ReturnsInHanded {} Try.checked os 3 .any (Rows.fnExactAllEventsSpec.pre6 enc Try.prog Try.f3 Rows.fnExactAllEventsRow.domain false) (Rows.fnExactAllEventsSpec.post enc Try.prog Try.f3 false true false false) := by
  refine returnsInHanded_of_change_sized (C := Try.checked) own started (by kernel_rfl) Try.func3
    (ChangeSpec.witness6 (enc := enc) (C := Try.checked) false ⟨#[], #[.agg #[.slice none 0 0, .slice none 0 0]], []⟩ 8 (by kernel_rfl) (by kernel_rfl) (by kernel_rfl) (by kernel_rfl)) ?_
  intro W base args ds gs before hval0 hW hcnd hsz0 _
  have hsz : (DataW.weightsEach Try.prog (Try.f3.params.toList ++ Rows.fnExactAllEventsSpec.plain.varTypes Try.prog) (ds ++ gs)).all (· ≤ reachBytes) = true := hsz0
  have hval : ∀ (j : Nat) t v, Try.f3.params[j]? = some t → args[j]? = some v → Value.okWide Try.prog W .any base t v := hval0
  have hW' := hW
  obtain ⟨p, q, hA0, hV, rfl, hfz, hnd⟩ := hW
  have hA : DataW.TrodAll enc Try.prog W 0 (fun _ => true) true Try.f3.params.toList args.toList ds p := hA0
  rw [Try.params3] at hA hval hsz
  obtain ⟨v0, vs0, d0, ds0, p0, q0, hargs, rfl, rfl, h0, r0⟩ := trodAll_cons hA
  obtain ⟨rfl, rfl, rfl⟩ := trodAll_nil r0
  obtain rfl : args = #[v0] := by cases args; simp_all
  obtain ⟨rfl, rfl⟩ := trodVars_none hV
  have k0 := h0
  have lt0 : ∀ x ∈ p0, x.block < W.heap.size := by obtain ⟨m, hm⟩ := k0; exact DataW.trod_lt m _ _ _ hm
  obtain ⟨x0, cs0, rfl, hk0, g0⟩ := open_arg_struct (W := W) Try.underlying25 (hval 0 25 v0 rfl rfl) (opens_struct Try.underlying25 (by kernel_rfl) (opensF_cons rfl (by kernel_rfl) rfl (opens_slice (d := k76) (B := 64) Try.underlying22 (by kernel_rfl) (by kernel_rfl) (opens_struct (d := _) Try.underlying76 (by kernel_rfl) (opensF_cons rfl (by kernel_rfl) rfl (opens_int Try.underlying3) (opensF_cons rfl (by kernel_rfl) rfl (opens_int Try.underlying3) (opensF_cons rfl (by kernel_rfl) rfl (opens_int Try.underlying3) (opensF_cons rfl (by kernel_rfl) rfl (opens_string Try.underlying9) (opensF_cons rfl (by kernel_rfl) rfl (opens_int Try.underlying3) (opensF_cons rfl (by kernel_rfl) rfl (opens_int Try.underlying3) (opensF_one rfl (by kernel_rfl) (opens_int Try.underlying3)))))))) (fun x : S76 => (x.f0, x.f1, x.f2, x.f3, x.f4, x.f5, x.f6)) (fun y => (⟨y.1, y.2.1, y.2.2.1, y.2.2.2.1, y.2.2.2.2.1, y.2.2.2.2.2.1, y.2.2.2.2.2.2⟩ : S76)) (fun _ => rfl))) (opensF_one rfl (by kernel_rfl) (opens_slice (d := k84) (B := 40) Try.underlying23 (by kernel_rfl) (by kernel_rfl) (opens_struct (d := _) Try.underlying84 (by kernel_rfl) (opensF_cons rfl (by kernel_rfl) rfl (opens_slice (d := k76) (B := 64) Try.underlying22 (by kernel_rfl) (by kernel_rfl) (opens_struct (d := _) Try.underlying76 (by kernel_rfl) (opensF_cons rfl (by kernel_rfl) rfl (opens_int Try.underlying3) (opensF_cons rfl (by kernel_rfl) rfl (opens_int Try.underlying3) (opensF_cons rfl (by kernel_rfl) rfl (opens_int Try.underlying3) (opensF_cons rfl (by kernel_rfl) rfl (opens_string Try.underlying9) (opensF_cons rfl (by kernel_rfl) rfl (opens_int Try.underlying3) (opensF_cons rfl (by kernel_rfl) rfl (opens_int Try.underlying3) (opensF_one rfl (by kernel_rfl) (opens_int Try.underlying3)))))))) (fun x : S76 => (x.f0, x.f1, x.f2, x.f3, x.f4, x.f5, x.f6)) (fun y => (⟨y.1, y.2.1, y.2.2.1, y.2.2.2.1, y.2.2.2.2.1, y.2.2.2.2.2.1, y.2.2.2.2.2.2⟩ : S76)) (fun _ => rfl))) (opensF_cons rfl (by kernel_rfl) rfl (opens_bool Try.underlying4) (opensF_one rfl (by kernel_rfl) (opens_int Try.underlying3)))) (fun x : S84 => (x.f0, x.f1, x.f2)) (fun y => (⟨y.1, y.2.1, y.2.2⟩ : S84)) (fun _ => rfl))))) (fun x => x) (fun x => x) (fun _ => rfl)) h0 (weights_at hsz (j := 0) rfl rfl)
  obtain ⟨l0_0, l0_1⟩ := x0
  obtain ⟨cl0, hcl0⟩ : ∃ l, l = cs0.toList := ⟨_, rfl⟩
  rw [← hcl0] at hk0
  obtain ⟨_, _, rfl, ⟨A0_0, c0_0, rfl, hc0_0, hr0_0⟩, ⟨A0_1, c0_1, rfl, hc0_1, hr0_1⟩⟩ := hk0
  obtain rfl : cs0 = #[.slice A0_0 l0_0.length c0_0, .slice A0_1 l0_1.length c0_1] := by apply Array.toList_inj.1; rw [← hcl0]; rfl
  clear hA0 hval0 hsz0 hsz
  obtain ⟨kr, hkr⟩ := Go.Proofs.Ytgllggmaiapeoaa.PureFnExactAllEvents.FnExactAllEvents l0_0 l0_1 g0
  refine (Go.Proofs.Ytgllggmaiapeoaa.PureFnExactAllEvents.row_calls (w := W) (h := hkr) (hr0_0 := hr0_0) (hc0_0 := hc0_0) (hr0_1 := hr0_1) (hc0_1 := hc0_1)).mono fun e W' ⟨he, bel⟩ => ?_
  subst he
  exact ⟨_, rfl, _, _, _, [], _, [], hW', trodAll_mk1 (shut_bool Try.underlying4 _), (trodAll_cons_mk (Below.trod laidOut (by kernel_rfl) (of_decide_eq_true (by kernel_rfl)) k0 bel lt0) trodAll_mk0), rfl, bel.frame _, fun h => by cases h⟩
theorem over : Rows.fnExactAllEventsRow.holds Try.pinned (OpenSpec.ofChange Rows.fnExactAllEventsSpec) :=
  OpenClaim.holds_of_wide 3 Try.f3 rfl rfl rfl rfl rfl rfl rfl ⟨rfl, rfl, rfl, rfl, rfl⟩ rfl rfl rfl rfl rfl (by kernel_rfl) Try.func3 (by kernel_rfl)
    (of_decide_eq_true (by kernel_rfl)) (by unfold Func.isWrapper; first | (rw [if_pos (by decide +kernel)]; kernel_rfl) | (rw [if_neg (by decide +kernel)]; exact ⟨rfl, rfl⟩))
    (fun os started H enc _ => lifted os started H enc)
theorem proved : Rows.FnExactAllEventsSaid := over
#print axioms proved
end Go.Proofs.Ytgllggmaiapeoaa.fnExactAllEvents
namespace Go.Proofs.Ytgllggmaiapeoaa
/-- The row, under a short name, for the claim. -/
theorem fnExactAllEvents_holds : Rows.FnExactAllEventsSaid := fnExactAllEvents.proved
end Go.Proofs.Ytgllggmaiapeoaa
