/- Plain laws for FnClosed (what the printed functions compute). -/
import Derived.Test.YtjhjeghgeclglaaPFnClosedx
import Derived.Test.YtjhjeghgeclglaaEv
namespace Go.Proofs.Ytjhjeghgeclglaa.PureFnClosed
open Go.RowKit Go.Proofs.Ytjhjeghgeclglaa.PFnClosed Go.Proofs.YtjhjeghgeclglaaW.PrintWords Go.Proofs.YtjhjeghgeclglaaW.PrintLast Go.Proofs.YtjhjeghgeclglaaW.PrintMore Go.Proofs.YtjhjeghgeclglaaEv
set_option linter.unusedVariables false
/-- What the function value in impl.ClosePeriod does: it appends an entry to the captured variable (a block of one cell, number B) if the amount is not 0. -/
def addE (xs : List S51) (a : ByteArray) (n : Int) : List S51 := if n = 0 then xs else xs ++ [⟨a, n⟩]
set_option maxHeartbeats 8000000 in
set_option maxRecDepth 100000 in
theorem addE.calls (B : Nat) (v : Value) (xs : List S51) (a : ByteArray) (n : Int) (w0 w : World) (hB : Below w0.heap.size w0 w) (hb : w.heap[B]? = some (.cells #[v] 41 (0, 0))) (hgb : w0.heap.size ≤ B)
    (hR : Kd.R k51 51 w w0.heap.size (fun k => k ≠ B) v xs) (hlen : xs.length ≤ 1000) :
    Calls Try.prog 53 #[.string a, .int .i64 n, .pointer (some ⟨B, 0, none⟩)] w fun e w' => e = .returned (.tuple #[]) ∧ ∃ v', w'.heap[B]? = some (.cells #[v'] 41 (0, 0)) ∧ Kd.R k51 51 w' w0.heap.size (fun k => k ≠ B) v' (addE xs a n) ∧ Below w0.heap.size w0 w' := by
  have HB := Aside0.mk hB
  have BK := Aside0.mk hb
  have HR := Aside0.mk hR
  clear hB hb hR
  obtain ⟨A, c, ev⟩ := Kd.R_slice HR.out
  subst ev
  by_cases hn : n = 0
  · subst hn
    go_enter Try.func53, Try.ntmps53
    go_wp2
    go_end0
    exact ⟨rfl, _, BK.out, by simpa [addE] using HR.out, HB.out⟩
  · have e : addE xs a n = xs ++ [⟨a, n⟩] := if_neg hn
    rw [e]
    have hnb : (n != 0) = true := bne_iff_ne.mpr hn
    have hc0 : w.cell? ⟨B, 0, none⟩ = some (.slice A xs.length c) := (blk_cell BK.out 0).trans rfl
    have hf0 := blk_frozen BK.out 0
    have e2 : (xs ++ [(⟨a, n⟩ : S51)]).length = xs.length + 1 := by simp
    clear e hn
    go_enter Try.func53, Try.ntmps53
    go_wp2_with (first | ((with_reducible refine gate_builtin (b := .append) (xs := #[.tmp 7, .tmp 11]) rfl ?_); at_builtin; refine Kd.R_append k51 (w0 := w0) w0.heap.size rfl (.tmp 7) (.tmp 11) 41 51 (.agg #[(.string ⟨#[]⟩), (.int .i64 0)]) 24 rfl Try.underlying41 info51 rfl (by decide) (by omega) (.slice A xs.length c) xs (⟨a, n⟩ : S51) [.string a, .int .i64 n] (fun k_ => k_ ≠ B) (fun _ => False) rfl (by first | (go_simp; done) | (go_simp; rfl)) ?aP (fun _ hk => hk.elim) ?aF ?aO ?aB ?aS ?aL ?_; (case aP => exact k51_mkM _ _ _ (⟨a, n⟩ : S51)); (case aB => exact HB.out); (case aF => exact (fun k_ hk => Kd.freshB BK.out k_ hk)); (case aO => exact HR.out); (case aS => exact HB.out.size); (case aL => omega); intro v2 w2 ho hb hg hat; obtain ⟨A2, cp2, ev2⟩ := Kd.R_slice ho; subst ev2; rw [e2] at ho; have BK2 := Aside0.mk (blk_grown BK.out hg (Kd.R_away HR.out (fun _ hk => hk))); have HB2 := Aside0.mk hb; have HR2 := Aside0.mk ho; have hc2 : w2.cell? ⟨B, 0, none⟩ = some (.slice A xs.length c) := (blk_cell BK2.out 0).trans rfl; have hf2 := blk_frozen BK2.out 0; clear ho hb hg hat hc0 hf0))
    go_end0
    exact ⟨rfl, _, blk_put (cs := #[.slice A xs.length c]) BK2.out 0 _ rfl, Kd.R_far (p := ⟨B, 0, none⟩) HR2.out (fun _ hk => hk) _, below_set HB2.out hgb⟩
def sSales : ByteArray := ⟨#[83, 65, 76, 69, 83]⟩
def sCost : ByteArray := ⟨#[67, 79, 83, 84]⟩
def sEquity : ByteArray := ⟨#[69, 81, 85, 73, 84, 89]⟩
def impl_ClosePeriod.f (k : Nat) (l : List S66) (day : Int) : Option (List S66 × Bool) :=
  (impl_AreDocuments.f k l).bind fun t => if t = true then ((impl_in.f day 0 999).bind fun u => if u = true then
    ((impl_BalanceOf.f k l sSales day).bind fun a => (impl_BalanceOf.f k l sCost day).bind fun b =>
      if (addE (addE [] sSales (wrap64 (-a))) sCost (wrap64 (-b))).length = 0 then ((impl_copyDocuments.f k l).bind fun c => some (c, true))
      else ((impl_ProfitOn.f k l day).bind fun p => (impl_PostEntries.f k l day (addE (addE (addE [] sSales (wrap64 (-a))) sCost (wrap64 (-b))) sEquity (wrap64 (-p)))).bind fun q => some (q.1, q.2)))
    else some ([], false)) else some ([], false)
set_option maxHeartbeats 8000000 in
set_option maxRecDepth 100000 in
theorem impl_ClosePeriod.calls (k : Nat) (A0 : Option Addr) (c0 : Nat) (l0 : List S66) (day : Int) (r1 : List S66) (r2 : Bool) (w : World) (hr0 : Kd.C k66 w A0 l0.length l0) (hc0 : l0.length ≤ c0) (h : impl_ClosePeriod.f k l0 day = some (r1, r2)) :
    Calls Try.prog 23 #[.slice A0 l0.length c0, .int .i64 day] w fun e w' => ∃ v0_ : Value, e = .returned (.tuple #[v0_, .bool r2]) ∧ Kd.S k66 66 w' w.heap.size (fun _ => True) v0_ r1 ∧ Below w.heap.size w w' := by
  have R0 := Aside0.mk hr0
  have C0 := Aside0.mk hc0
  clear hr0 hc0
  unfold impl_ClosePeriod.f at h
  obtain ⟨t, h1, h⟩ := Option.bind_eq_some_iff.mp h
  have AD := Aside0.mk h1
  clear h1
  have hu41 := Try.underlying41
  cases t with
  | false =>
    simp only [Bool.false_eq_true, if_false, Option.some.injEq, Prod.mk.injEq] at h
    obtain ⟨rfl, rfl⟩ := h
    go_enter Try.func23, Try.ntmps23
    go_wp2_with fail
    refine (impl_AreDocuments.calls k _ _ _ _ _ R0.out C0.out AD.out).mono ?_
    rintro e w1 ⟨rfl, hb⟩
    have BB := Aside0.mk hb
    clear hb
    go_wp2_with fail
    go_ret2
    exact ⟨_, rfl, Kd.S_nil _ _ _ _ _, BB.out⟩
  | true =>
    simp only [if_true] at h
    obtain ⟨u, h1, h⟩ := Option.bind_eq_some_iff.mp h
    have IN := Aside0.mk h1
    clear h1
    go_enter Try.func23, Try.ntmps23
    go_wp2_with fail
    refine (impl_AreDocuments.calls k _ _ _ _ _ R0.out C0.out AD.out).mono ?_
    rintro e w1 ⟨rfl, hb⟩
    have BB := Aside0.mk hb
    clear hb
    go_wp2_with fail
    refine (impl_in.calls _ _ _ _ _ IN.out).mono ?_
    rintro e w2 ⟨rfl, hd⟩
    have BB2 := Aside0.mk (below_then BB.out BB.out.size hd.below)
    clear BB hd
    cases u with
    | false =>
      simp only [Bool.false_eq_true, if_false, Option.some.injEq, Prod.mk.injEq] at h
      obtain ⟨rfl, rfl⟩ := h
      go_wp2_with fail
      go_ret2
      exact ⟨_, rfl, Kd.S_nil _ _ _ _ _, BB2.out⟩
    | true =>
      simp only [if_true] at h
      obtain ⟨a, h1, h⟩ := Option.bind_eq_some_iff.mp h
      obtain ⟨b, h2, h⟩ := Option.bind_eq_some_iff.mp h
      have HA := Aside0.mk h1
      have HBL := Aside0.mk h2
      have HX := Aside0.mk h
      clear h1 h2 h
      go_wp2_with (first | ((with_reducible refine gate_dst (N := 16) rfl ?_); refine Kd.R_lit k51 _ 51 ?hg (N := 16) ?hd (xs := ([] : List S51)) (inner := []) (ok := fun _ => True) (okp := fun _ => True) ?hr ?hp (fun _ hk => hk) trivial (Below.refl _ _) (Nat.le_refl _) (by simp) ?_; (case hd => rfl); (case hg => rfl); (case hr => first | (go_simp; done) | (go_simp; rfl)); (case hp => exact (Reps.none _ _)); intro v3 w3 ho3 hb hg_ hnew_; obtain ⟨A3, c3, ev3⟩ := Kd.R_slice ho3; subst ev3; have HO3 := Aside0.mk (Kd.R_lower ho3 (below_size BB2.out)); have BB3 := Aside0.mk (below_step BB2.out hb); clear hb ho3 hg_ hnew_) | ((with_reducible refine gate_dst (N := 6) rfl ?_); refine box_event ?hg (N := 6) ?hd (cs := #[.slice none 0 0]) (t := 41) ?hr ?_; (case hd => rfl); (case hg => rfl); (case hr => first | (go_simp; done) | (go_simp; rfl)); intro B hg w4 hbox hb; have HO4 := Aside0.mk (Kd.R_below (Kd.R_elderB HO3.out B (Nat.le_of_eq hg.symm)) hb); have BK4 := Aside0.mk hbox; have BB4 := Aside0.mk (below_step BB3.out hb); have GB := Aside0.mk ((by rw [hg]; exact below_size BB3.out) : w.heap.size ≤ B); have hc4 : w4.cell? ⟨B, 0, none⟩ = some (.slice none 0 0) := (blk_cell BK4.out 0).trans rfl; have hf4 := blk_frozen BK4.out 0; clear hb hbox hg))
      have BK5 := Aside0.mk (blk_put (cs := #[.slice none 0 0]) BK4.out 0 (.slice A3 0 c3) rfl)
      have HO5 : Aside0 (Kd.R k51 51 (w4.setCell ⟨B, 0, none⟩ (.slice A3 0 c3)) w.heap.size (fun k => k ≠ B) (.slice A3 0 c3) []) := ⟨Kd.R_far (p := ⟨B, 0, none⟩) (Kd.R_mono HO4.out (fun k hk => hk.2)) (fun _ hk => hk) _⟩
      have BB5 := Aside0.mk (below_set BB4.out GB.out (v := .slice A3 0 c3) (j := 0))
      clear BK4 HO4 BB4 HO3 BB3 hc4 hf4 BB2 AD IN
      refine (impl_BalanceOf.calls k _ _ _ sSales _ _ _ (Kd.C_below R0.out BB5.out) C0.out HA.out).mono ?_
      rintro e w6 ⟨rfl, hb⟩
      have BK6 := Aside0.mk (blk_below BK5.out hb)
      have HO6 := Aside0.mk (Kd.R_below HO5.out hb)
      have BB6 := Aside0.mk (below_then BB5.out BB5.out.size hb)
      clear BK5 HO5 BB5 hb
      obtain ⟨es1, hes1⟩ : ∃ es, es = addE [] sSales (wrap64 (-a)) := ⟨_, rfl⟩
      have l1 : es1.length ≤ 1 := by rw [hes1]; unfold addE; split <;> simp
      rw [← hes1] at HX
      have E1 := Aside0.mk hes1
      clear hes1
      go_wp2_with fail
      refine (addE.calls B _ [] sSales (wrap64 (-a)) w _ BB6.out BK6.out GB.out HO6.out (by simp)).mono ?_
      rintro e w7 ⟨rfl, v7, hbk, hR, hb⟩
      rw [← E1.out] at hR
      obtain ⟨A7, c7, ev⟩ := Kd.R_slice hR
      subst ev
      have BK7 := Aside0.mk hbk
      have HO7 := Aside0.mk hR
      have BB7 := Aside0.mk hb
      clear hbk hR hb BK6 HO6 BB6

      go_wp2_with fail
      refine (impl_BalanceOf.calls k _ _ _ sCost _ _ _ (Kd.C_below R0.out BB7.out) C0.out HBL.out).mono ?_
      rintro e w8 ⟨rfl, hb⟩
      have BK8 := Aside0.mk (blk_below BK7.out hb)
      have HO8 := Aside0.mk (Kd.R_below HO7.out hb)
      have BB8 := Aside0.mk (below_then BB7.out BB7.out.size hb)
      clear BK7 HO7 BB7 hb
      obtain ⟨es2, hes2⟩ : ∃ es, es = addE es1 sCost (wrap64 (-b)) := ⟨_, rfl⟩
      have l2 : es2.length ≤ 2 := by rw [hes2]; unfold addE; split <;> (try simp) <;> omega
      rw [← hes2] at HX
      have E2 := Aside0.mk hes2
      clear hes2
      go_wp2_with fail
      refine (addE.calls B _ es1 sCost (wrap64 (-b)) w _ BB8.out BK8.out GB.out HO8.out (by omega)).mono ?_
      rintro e w9 ⟨rfl, v9, hbk, hR, hb⟩
      rw [← E2.out] at hR
      obtain ⟨A9, c9, ev⟩ := Kd.R_slice hR
      subst ev
      have BK9 := Aside0.mk hbk
      have HO9 := Aside0.mk hR
      have BB9 := Aside0.mk hb
      have hc9 : w9.cell? ⟨B, 0, none⟩ = some (.slice A9 es2.length c9) := (blk_cell BK9.out 0).trans rfl
      clear hbk hR hb BK8 HO8 BB8
      have h := HX.out
      clear HX
      by_cases hz : es2.length = 0
      · rw [if_pos hz] at h
        obtain ⟨cp, h1, h⟩ := Option.bind_eq_some_iff.mp h
        simp only [Option.some.injEq, Prod.mk.injEq] at h
        obtain ⟨rfl, rfl⟩ := h
        have HCP := Aside0.mk h1
        have hzb : ((es2.length : Int) == 0) = true := by simpa using hz
        clear h1
        rw [hz] at hc9
        go_wp2_with fail
        refine (impl_copyDocuments.calls k _ _ _ _ _ (Kd.C_below R0.out BB9.out) C0.out HCP.out).mono ?_
        rintro e w10 ⟨v10, rfl, hS, hb⟩
        have HS := Aside0.mk hS
        have BB10 := Aside0.mk (below_then BB9.out BB9.out.size hb)
        clear hS hb
        go_wp2_with fail
        go_ret2
        exact ⟨_, rfl, Kd.S_lower HS.out BB9.out.size, BB10.out⟩
      · rw [if_neg hz] at h
        obtain ⟨p, h1, h⟩ := Option.bind_eq_some_iff.mp h
        obtain ⟨q, h2, h⟩ := Option.bind_eq_some_iff.mp h
        simp only [Option.some.injEq, Prod.mk.injEq] at h
        obtain ⟨rfl, rfl⟩ := h
        have HPR := Aside0.mk h1
        have HPE := Aside0.mk h2
        have hzb : ((es2.length : Int) == 0) = false := by simpa using hz
        clear h1 h2
        go_wp2_with fail
        refine (impl_ProfitOn.calls k _ _ _ _ _ _ (Kd.C_below R0.out BB9.out) C0.out HPR.out).mono ?_
        rintro e w10 ⟨rfl, hb⟩
        have BK10 := Aside0.mk (blk_below BK9.out hb)
        have HO10 := Aside0.mk (Kd.R_below HO9.out hb)
        have BB10 := Aside0.mk (below_then BB9.out BB9.out.size hb)
        clear BK9 HO9 BB9 hb hc9
        obtain ⟨es3, hes3⟩ : ∃ es, es = addE es2 sEquity (wrap64 (-p)) := ⟨_, rfl⟩
        rw [← hes3] at HPE
        have E3 := Aside0.mk hes3
        clear hes3
        go_wp2_with fail
        refine (addE.calls B _ es2 sEquity (wrap64 (-p)) w _ BB10.out BK10.out GB.out HO10.out (by omega)).mono ?_
        rintro e w11 ⟨rfl, v11, hbk, hR, hb⟩
        rw [← E3.out] at hR
        obtain ⟨A11, c11, ev⟩ := Kd.R_slice hR
        subst ev
        have HO11 := Kd.R_reads' hR
        have BB11 := Aside0.mk hb
        have hc11 : w11.cell? ⟨B, 0, none⟩ = some (.slice A11 es3.length c11) := (blk_cell hbk 0).trans rfl
        clear hbk hR hb BK10 HO10 BB10
        go_wp2_with fail
        refine (impl_PostEntries.calls k _ _ _ _ _ _ _ _ _ _ (Kd.C_below R0.out BB11.out) C0.out HO11.2.2 HO11.2.1 HPE.out).mono ?_
        rintro e w12 ⟨v12, rfl, hS, hb⟩
        have HS := Aside0.mk hS
        have BB12 := Aside0.mk (below_then BB11.out BB11.out.size hb)
        clear hS hb
        go_wp2_with fail
        go_ret2
        exact ⟨_, rfl, Kd.S_lower HS.out BB11.out.size, BB12.out⟩

end Go.Proofs.Ytjhjeghgeclglaa.PureFnClosed
