/- The row of the law FnExactAddIntervals: for every input the law answers true, and its arguments read behind the call as they did before. No condition beyond the row's own. -/
import Derived.Test.YtdcdikajefekkaaRows
import Derived.Test.YtdcdikajefekkaaAid
import Derived.Test.YtdcdikajefekkaaQFnExactAddIntervalsx5
import Derived.Test.YtdcdikajefekkaaOwnFnExactAddIntervals
import Derived.WalkKit
import Derived.ProofKit
import Derived.OpenShut
import Derived.ShutString
import Derived.ChangeOld
import Derived.Below
import Derived.SizedLaws
import Derived.Carry
namespace Go.Proofs.Ytdcdikajefekkaa.fnExactAddIntervals
open Go.ChangeShapes Go.WideShapes Go.ChangeAt Go.RowKit Go.Proofs.YtdcdikajefekkaaA Go.Proofs.Ytdcdikajefekkaa.QFnExactAddIntervals Go.Proofs.YtdcdikajefekkaaW.PrintWords
open Go.ChangeMaps (open_string shut_string)
set_option linter.unusedVariables false
set_option linter.unusedSimpArgs false
theorem own : ownKnob Try.prog.godebug = none := by kernel_rfl
theorem laidOut : laidOutB Try.prog = true := by kernel_rfl
section
variable {H : Type} {enc : TypeId × Value → H}
theorem rd3 {W : World} {base n : Nat} {spare : Nat → Bool} {held : Bool} {cs : List Value} {x : DataW H × List MemPlace} (h : DataW.trod enc Try.prog W base spare held n 3 cs = some x) : ∃ a : Int, cs = [.int .i64 a] ∧ (Lit.int .i64 a).wf = true := by
  obtain ⟨a, h1, _, h2⟩ := DataW.trod_int Try.underlying3 h
  exact ⟨a, h1, h2⟩
theorem rd26 {W : World} {base n : Nat} {spare : Nat → Bool} {held : Bool} {cs : List Value} {x : DataW H × List MemPlace} (h : DataW.trod enc Try.prog W base spare held n 26 cs = some x) : ∃ (a_f0 : Int) (a_f1 : Int), cs = [.int .i64 a_f0, .int .i64 a_f1] ∧ (Lit.int .i64 a_f0).wf = true ∧ (Lit.int .i64 a_f1).wf = true := by
  obtain ⟨xs, m, _, _, hl, hx, hf⟩ := DataW.trod_struct Try.underlying26 h
  have hC : Program.cellsOf Try.prog 26 = 2 := by kernel_rfl
  rw [hC] at hl
  obtain ⟨e0, e1, rfl⟩ : ∃ e0 e1, cs = [e0, e1] := by
    match cs, hl with
    | [e0, e1], _ => exact ⟨_, _, rfl⟩
  have hc0 : Program.cellsOf Try.prog 3 = 1 := by kernel_rfl
  obtain ⟨y0, g0⟩ : ∃ y, DataW.trod enc Try.prog W base spare held m 3 ((([e0, e1] : List Value).drop 0).take (Program.cellsOf Try.prog 3)) = some y := some_of hx (by decide) (hf 0 _ rfl)
  rw [hc0] at g0
  have hc1 : Program.cellsOf Try.prog 3 = 1 := by kernel_rfl
  obtain ⟨y1, g1⟩ : ∃ y, DataW.trod enc Try.prog W base spare held m 3 ((([e0, e1] : List Value).drop 1).take (Program.cellsOf Try.prog 3)) = some y := some_of hx (by decide) (hf 1 _ rfl)
  rw [hc1] at g1
  obtain ⟨a0, q0, w0_0⟩ := rd3 (cs := [e0]) g0
  simp only [List.cons.injEq, and_true] at q0
  subst q0
  obtain ⟨a1, q1, w1_0⟩ := rd3 (cs := [e1]) g1
  simp only [List.cons.injEq, and_true] at q1
  subst q1
  exact ⟨a0, a1, rfl, w0_0, w1_0⟩
end
set_option maxRecDepth 100000 in
theorem lifted (os : Os) (started : os.Started) (H : Type) (enc : TypeId × Value → H) :
    ReturnsInHanded {} Try.checked os 14 .any (Rows.fnExactAddIntervalsSpec.pre6 enc Try.prog Try.f14 Rows.fnExactAddIntervalsRow.domain false) (Rows.fnExactAddIntervalsSpec.post enc Try.prog Try.f14 false true false false) := by
  refine returnsInHanded_of_change_sized (C := Try.checked) own started (by kernel_rfl) Try.func14
    (ChangeSpec.witness6 (enc := enc) (C := Try.checked) false ⟨#[], #[.agg #[.int .i64 0, .int .i64 0], .agg #[.int .i64 0, .int .i64 0]], []⟩ 8 (by kernel_rfl) (by kernel_rfl) (by kernel_rfl) (by kernel_rfl)) ?_
  intro W base args ds gs before hval0 hW hcnd hsz0 _
  have hval : ∀ (j : Nat) t v, Try.f14.params[j]? = some t → args[j]? = some v → Value.okWide Try.prog W .any base t v := hval0
  have hW' := hW
  obtain ⟨p, q, hA0, hV, rfl, hfz, hnd⟩ := hW
  have hA : DataW.TrodAll enc Try.prog W 0 (fun _ => true) true Try.f14.params.toList args.toList ds p := hA0
  rw [Try.params14] at hA hval
  obtain ⟨v0, vs0, d0, ds0, p0, q0, hargs, rfl, rfl, h0, r0⟩ := trodAll_cons hA
  obtain ⟨v1, vs1, d1, ds1, p1, q1, rfl, rfl, rfl, h1, r1⟩ := trodAll_cons r0
  obtain ⟨rfl, rfl, rfl⟩ := trodAll_nil r1
  obtain rfl : args = #[v0, v1] := by cases args; simp_all
  obtain ⟨rfl, rfl⟩ := trodVars_none hV
  have k0 := h0
  have lt0 := trod_lt' k0
  obtain ⟨cs0, rfl, hz0⟩ := okWide_struct Try.underlying26 (hval 0 26 v0 rfl rfl)
  obtain ⟨fuel0, hf0⟩ := h0
  obtain ⟨a0_0, a0_1, ec0, z0_0, z0_1⟩ := rd26 hf0
  obtain rfl := agg_list (show cs0.toList = _ from ec0)
  have k1 := h1
  have lt1 := trod_lt' k1
  obtain ⟨cs1, rfl, hz1⟩ := okWide_struct Try.underlying26 (hval 1 26 v1 rfl rfl)
  obtain ⟨fuel1, hf1⟩ := h1
  obtain ⟨a1_0, a1_1, ec1, z1_0, z1_1⟩ := rd26 hf1
  obtain rfl := agg_list (show cs1.toList = _ from ec1)
  refine (laws_FnExactAddIntervals.walk Own.FnExactAddIntervals a0_0 a0_1 a1_0 a1_1 W  z0_0 z0_1 z1_0 z1_1).mono fun e W' ⟨he, bel⟩ => ?_
  subst he
  exact ⟨_, rfl, _, _, _, [], _, [], hW', trodAll_mk1 (shut_bool Try.underlying4 _), (trodAll_cons_mk (Below.trod laidOut (by kernel_rfl) (of_decide_eq_true (by kernel_rfl)) k0 bel lt0) (trodAll_cons_mk (Below.trod laidOut (by kernel_rfl) (of_decide_eq_true (by kernel_rfl)) k1 bel lt1) trodAll_mk0)), rfl, bel.frame _, fun h => by cases h⟩
theorem over : Rows.fnExactAddIntervalsRow.holds Try.pinned (OpenSpec.ofChange Rows.fnExactAddIntervalsSpec) :=
  OpenClaim.holds_of_wide 14 Try.f14 rfl rfl rfl rfl rfl rfl rfl ⟨rfl, rfl, rfl, rfl, rfl⟩ rfl rfl rfl rfl rfl (by kernel_rfl) Try.func14 (by kernel_rfl)
    (of_decide_eq_true (by kernel_rfl)) (by unfold Func.isWrapper; first | (rw [if_pos (by decide +kernel)]; kernel_rfl) | (rw [if_neg (by decide +kernel)]; exact ⟨rfl, rfl⟩))
    (fun os started H enc _ => lifted os started H enc)
theorem proved : Rows.FnExactAddIntervalsSaid := over
#print axioms proved
end Go.Proofs.Ytdcdikajefekkaa.fnExactAddIntervals
namespace Go.Proofs.Ytdcdikajefekkaa
/-- The row, under a short name, for the claim. -/
theorem fnExactAddIntervals_holds : Rows.FnExactAddIntervalsSaid := fnExactAddIntervals.proved
end Go.Proofs.Ytdcdikajefekkaa
