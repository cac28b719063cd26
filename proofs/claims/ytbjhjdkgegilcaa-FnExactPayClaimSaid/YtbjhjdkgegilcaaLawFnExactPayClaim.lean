/- Row of the law FnExactPayClaim: for every input the call returns true and each argument reads as it did. No condition. -/
import Derived.Test.YtbjhjdkgegilcaaRows
import Derived.Test.YtbjhjdkgegilcaaPFnExactPayClaimx4
import Derived.Test.YtbjhjdkgegilcaaPureFnExactPayClaim
import Derived.Test.YtbjhjdkgegilcaaOpens
import Derived.WalkKit
import Derived.ProofKit
import Derived.OpenShut
import Derived.ShutString
import Derived.ChangeOld
import Derived.Below
import Derived.SizedLaws
import Derived.Lib.SmallJoins
namespace Go.Proofs.Ytbjhjdkgegilcaa.fnExactPayClaim
open Go.ChangeShapes Go.WideShapes Go.ChangeAt Go.RowKit Go.Joins
open Go.ChangeMaps (open_string shut_string)
open Go.Proofs.YtbjhjdkgegilcaaW.PrintWords Go.Proofs.YtbjhjdkgegilcaaOpens Go.Proofs.Ytbjhjdkgegilcaa.PFnExactPayClaim
set_option linter.unusedVariables false
theorem own : ownKnob Try.prog.godebug = none := by kernel_rfl
theorem laidOut : laidOutB Try.prog = true := by kernel_rfl
set_option maxRecDepth 100000 in
theorem lifted (os : Os) (started : os.Started) (H : Type) (enc : TypeId × Value → H) :
    ReturnsInHanded {} Try.checked os 6 .any (Rows.fnExactPayClaimSpec.pre6 enc Try.prog Try.f6 Rows.fnExactPayClaimRow.domain false) (Rows.fnExactPayClaimSpec.post enc Try.prog Try.f6 false true false false) := by
  refine returnsInHanded_of_change_sized (C := Try.checked) own started (by kernel_rfl) Try.func6
    (ChangeSpec.witness6 (enc := enc) (C := Try.checked) false ⟨#[], #[.agg #[.int .i64 0, .int .i64 0, .int .i64 0, .int .i64 0], .int .i64 0, .agg #[.int .i64 0, .int .i64 0]], []⟩ 8 (by kernel_rfl) (by kernel_rfl) (by kernel_rfl) (by kernel_rfl)) ?_
  intro W base args ds gs before hval0 hW hcnd hsz0 _
  have hsz : (DataW.weightsEach Try.prog (Try.f6.params.toList ++ Rows.fnExactPayClaimSpec.plain.varTypes Try.prog) (ds ++ gs)).all (· ≤ reachBytes) = true := hsz0
  have hval : ∀ (j : Nat) t v, Try.f6.params[j]? = some t → args[j]? = some v → Value.okWide Try.prog W .any base t v := hval0
  have hW' := hW
  obtain ⟨p, q, hA0, hV, rfl, hfz, hnd⟩ := hW
  have hA : DataW.TrodAll enc Try.prog W 0 (fun _ => true) true Try.f6.params.toList args.toList ds p := hA0
  rw [Try.params6] at hA hval hsz
  obtain ⟨v0, vs0, d0, ds0, p0, q0, hargs, rfl, rfl, h0, r0⟩ := trodAll_cons hA
  obtain ⟨v1, vs1, d1, ds1, p1, q1, rfl, rfl, rfl, h1, r1⟩ := trodAll_cons r0
  obtain ⟨v2, vs2, d2, ds2, p2, q2, rfl, rfl, rfl, h2, r2⟩ := trodAll_cons r1
  obtain ⟨rfl, rfl, rfl⟩ := trodAll_nil r2
  obtain rfl : args = #[v0, v1, v2] := by cases args; simp_all
  obtain ⟨rfl, rfl⟩ := trodVars_none hV
  have k0 := h0
  have lt0 : ∀ x ∈ p0, x.block < W.heap.size := by obtain ⟨m, hm⟩ := k0; exact DataW.trod_lt m _ _ _ hm
  obtain ⟨x0, cs0, rfl, hk0, g0⟩ := open_arg_struct (W := W) Try.underlying32 (hval 0 32 v0 rfl rfl) (opens_struct Try.underlying32 (by kernel_rfl) (opensF_cons rfl (by kernel_rfl) rfl (opens_int Try.underlying3) (opensF_cons rfl (by kernel_rfl) rfl (opens_struct Try.underlying30 (by kernel_rfl) (opensF_cons rfl (by kernel_rfl) rfl (opens_int Try.underlying3) (opensF_one rfl (by kernel_rfl) (opens_int Try.underlying3))) (fun x => x) (fun x => x) (fun _ => rfl)) (opensF_one rfl (by kernel_rfl) (opens_int Try.underlying3)))) (fun x => x) (fun x => x) (fun _ => rfl)) h0 (weights_at hsz (j := 0) rfl rfl)
  obtain ⟨a0_0, ⟨a0_1, a0_2⟩, a0_3⟩ := x0
  obtain ⟨cl0, hcl0⟩ : ∃ l, l = cs0.toList := ⟨_, rfl⟩
  rw [← hcl0] at hk0
  obtain ⟨_, _, rfl, rfl, ⟨_, _, rfl, ⟨_, _, rfl, rfl, rfl⟩, rfl⟩⟩ := hk0
  obtain rfl : cs0 = #[.int .i64 a0_0, .int .i64 a0_1, .int .i64 a0_2, .int .i64 a0_3] := by apply Array.toList_inj.1; rw [← hcl0]; rfl
  obtain ⟨a1, rfl, rfl, rfl, w1⟩ := open_int Try.underlying3 (hval 1 3 v1 rfl rfl) h1
  have k2 := h2
  have lt2 : ∀ x ∈ p2, x.block < W.heap.size := by obtain ⟨m, hm⟩ := k2; exact DataW.trod_lt m _ _ _ hm
  obtain ⟨x2, cs2, rfl, hk2, g2⟩ := open_arg_struct (W := W) Try.underlying30 (hval 2 30 v2 rfl rfl) (opens_struct Try.underlying30 (by kernel_rfl) (opensF_cons rfl (by kernel_rfl) rfl (opens_int Try.underlying3) (opensF_one rfl (by kernel_rfl) (opens_int Try.underlying3))) (fun x => x) (fun x => x) (fun _ => rfl)) h2 (weights_at hsz (j := 2) rfl rfl)
  obtain ⟨a2_0, a2_1⟩ := x2
  obtain ⟨cl2, hcl2⟩ : ∃ l, l = cs2.toList := ⟨_, rfl⟩
  rw [← hcl2] at hk2
  obtain ⟨_, _, rfl, rfl, rfl⟩ := hk2
  obtain rfl : cs2 = #[.int .i64 a2_0, .int .i64 a2_1] := by apply Array.toList_inj.1; rw [← hcl2]; rfl
  clear hA0 hval0 hsz0 hsz
  obtain ⟨kr, hkr⟩ := Go.Proofs.Ytbjhjdkgegilcaa.PureFnExactPayClaim.FnExactPayClaim a0_0 a0_1 a0_2 a0_3 g0 a1 w1 a2_0 a2_1 g2
  refine (laws_FnExactPayClaim.calls_true (w := W) (h := hkr) ).mono fun e W' ⟨he, bel⟩ => ?_
  subst he
  exact ⟨_, rfl, _, _, _, [], _, [], hW', trodAll_mk1 (shut_bool Try.underlying4 _), (trodAll_cons_mk (Below.trod laidOut (by kernel_rfl) (of_decide_eq_true (by kernel_rfl)) k0 bel lt0) (trodAll_cons_mk (shut_int Try.underlying3 w1) (trodAll_cons_mk (Below.trod laidOut (by kernel_rfl) (of_decide_eq_true (by kernel_rfl)) k2 bel lt2) trodAll_mk0))), rfl, bel.frame _, fun h => by cases h⟩
theorem over : Rows.fnExactPayClaimRow.holds Try.pinned (OpenSpec.ofChange Rows.fnExactPayClaimSpec) :=
  OpenClaim.holds_of_wide 6 Try.f6 rfl rfl rfl rfl rfl rfl rfl ⟨rfl, rfl, rfl, rfl, rfl⟩ rfl rfl rfl rfl rfl (by kernel_rfl) Try.func6 (by kernel_rfl)
    (of_decide_eq_true (by kernel_rfl)) (by unfold Func.isWrapper; first | (rw [if_pos (by decide +kernel)]; kernel_rfl) | (rw [if_neg (by decide +kernel)]; exact ⟨rfl, rfl⟩))
    (fun os started H enc _ => lifted os started H enc)
theorem proved : Rows.FnExactPayClaimSaid := over
#print axioms proved
end Go.Proofs.Ytbjhjdkgegilcaa.fnExactPayClaim
namespace Go.Proofs.Ytbjhjdkgegilcaa
/-- The row, under a short name, for the claim. -/
theorem fnExactPayClaim_holds : Rows.FnExactPayClaimSaid := fnExactPayClaim.proved
end Go.Proofs.Ytbjhjdkgegilcaa
