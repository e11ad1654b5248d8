/- The row of the law FnExactLatestTimes: for every input the law answers true, and its arguments read behind the call as they did before. No condition beyond the row's own. -/
import Derived.Test.YtbbblnmngjhadaaRows
import Derived.Test.YtbbblnmngjhadaaAid
import Derived.Test.YtbbblnmngjhadaaQFnExactLatestTimesx16
import Derived.Test.YtbbblnmngjhadaaOwnFnExactLatestTimes
import Derived.WalkKit
import Derived.ProofKit
import Derived.OpenShut
import Derived.ShutString
import Derived.ChangeOld
import Derived.Below
import Derived.SizedLaws
import Derived.Carry
namespace Go.Proofs.Ytbbblnmngjhadaa.fnExactLatestTimes
open Go.ChangeShapes Go.WideShapes Go.ChangeAt Go.RowKit Go.Proofs.YtbbblnmngjhadaaA Go.Proofs.Ytbbblnmngjhadaa.QFnExactLatestTimes Go.Proofs.YtbbblnmngjhadaaW.PrintWords
open Go.ChangeMaps (open_string shut_string)
set_option linter.unusedVariables false
set_option linter.unusedSimpArgs false
theorem own : ownKnob Try.prog.godebug = none := by kernel_rfl
theorem laidOut : laidOutB Try.prog = true := by kernel_rfl
section
variable {H : Type} {enc : TypeId × Value → H}
theorem rd3 {W : World} {base n : Nat} {spare : Nat → Bool} {held : Bool} {cs : List Value} {x : DataW H × List MemPlace} (h : DataW.trod enc Try.prog W base spare held n 3 cs = some x) : ∃ a : Int, cs = [.int .i64 a] ∧ (Lit.int .i64 a).wf = true := by
  obtain ⟨a, h1, _, h2⟩ := DataW.trod_int Try.underlying3 h
  exact ⟨a, h1, h2⟩
theorem rd126 {W : World} {base n : Nat} {spare : Nat → Bool} {held : Bool} {cs : List Value} {x : DataW H × List MemPlace} (h : DataW.trod enc Try.prog W base spare held n 126 cs = some x) : ∃ (a_f0 : Int) (a_f1 : Int), cs = [.int .i64 a_f0, .int .i64 a_f1] ∧ (Lit.int .i64 a_f0).wf = true ∧ (Lit.int .i64 a_f1).wf = true := by
  obtain ⟨xs, m, _, _, hl, hx, hf⟩ := DataW.trod_struct Try.underlying126 h
  have hC : Program.cellsOf Try.prog 126 = 2 := by kernel_rfl
  rw [hC] at hl
  obtain ⟨e0, e1, rfl⟩ := list2 hl
  have hc0 : Program.cellsOf Try.prog 3 = 1 := by kernel_rfl
  obtain ⟨y0, g0⟩ : ∃ y, DataW.trod enc Try.prog W base spare held m 3 ((([e0, e1] : List Value).drop 0).take (Program.cellsOf Try.prog 3)) = some y := some_of hx (by decide) (hf 0 _ rfl)
  rw [hc0] at g0
  have hc1 : Program.cellsOf Try.prog 3 = 1 := by kernel_rfl
  obtain ⟨y1, g1⟩ : ∃ y, DataW.trod enc Try.prog W base spare held m 3 ((([e0, e1] : List Value).drop 1).take (Program.cellsOf Try.prog 3)) = some y := some_of hx (by decide) (hf 1 _ rfl)
  rw [hc1] at g1
  obtain ⟨a0, q0, w0_0⟩ := rd3 (cs := [e0]) g0
  simp only [List.cons.injEq, and_true] at q0
  subst q0
  obtain ⟨a1, q1, w1_0⟩ := rd3 (cs := [e1]) g1
  simp only [List.cons.injEq, and_true] at q1
  subst q1
  exact ⟨a0, a1, rfl, w0_0, w1_0⟩
theorem rd128 {W : World} {base n : Nat} {spare : Nat → Bool} {held : Bool} {cs : List Value} {x : DataW H × List MemPlace} (h : DataW.trod enc Try.prog W base spare held n 128 cs = some x) : ∃ (a_f0 : Int) (a_f1 : Int) (a_f2_f0 : Int) (a_f2_f1 : Int), cs = [.int .i64 a_f0, .int .i64 a_f1, .int .i64 a_f2_f0, .int .i64 a_f2_f1] ∧ (Lit.int .i64 a_f0).wf = true ∧ (Lit.int .i64 a_f1).wf = true ∧ (Lit.int .i64 a_f2_f0).wf = true ∧ (Lit.int .i64 a_f2_f1).wf = true := by
  obtain ⟨xs, m, _, _, hl, hx, hf⟩ := DataW.trod_struct Try.underlying128 h
  have hC : Program.cellsOf Try.prog 128 = 4 := by kernel_rfl
  rw [hC] at hl
  obtain ⟨e0, e1, e2, e3, rfl⟩ := list4 hl
  have hc0 : Program.cellsOf Try.prog 3 = 1 := by kernel_rfl
  obtain ⟨y0, g0⟩ : ∃ y, DataW.trod enc Try.prog W base spare held m 3 ((([e0, e1, e2, e3] : List Value).drop 0).take (Program.cellsOf Try.prog 3)) = some y := some_of hx (by decide) (hf 0 _ rfl)
  rw [hc0] at g0
  have hc1 : Program.cellsOf Try.prog 3 = 1 := by kernel_rfl
  obtain ⟨y1, g1⟩ : ∃ y, DataW.trod enc Try.prog W base spare held m 3 ((([e0, e1, e2, e3] : List Value).drop 1).take (Program.cellsOf Try.prog 3)) = some y := some_of hx (by decide) (hf 1 _ rfl)
  rw [hc1] at g1
  have hc2 : Program.cellsOf Try.prog 126 = 2 := by kernel_rfl
  obtain ⟨y2, g2⟩ : ∃ y, DataW.trod enc Try.prog W base spare held m 126 ((([e0, e1, e2, e3] : List Value).drop 2).take (Program.cellsOf Try.prog 126)) = some y := some_of hx (by decide) (hf 2 _ rfl)
  rw [hc2] at g2
  obtain ⟨a0, q0, w0_0⟩ := rd3 (cs := [e0]) g0
  simp only [List.cons.injEq, and_true] at q0
  subst q0
  obtain ⟨a1, q1, w1_0⟩ := rd3 (cs := [e1]) g1
  simp only [List.cons.injEq, and_true] at q1
  subst q1
  obtain ⟨a2_f0, a2_f1, q2, w2_0, w2_1⟩ := rd126 (cs := [e2, e3]) g2
  simp only [List.cons.injEq, and_true] at q2
  obtain ⟨rfl, rfl⟩ := q2
  exact ⟨a0, a1, a2_f0, a2_f1, rfl, w0_0, w1_0, w2_0, w2_1⟩
theorem rd40 {W : World} {base n : Nat} {spare : Nat → Bool} {held : Bool} {cs : List Value} {x : DataW H × List MemPlace} (h : DataW.trod enc Try.prog W base spare held n 40 cs = some x) : ∃ (A : Option Addr) (c : Nat) (l : List (S128)), cs = [.slice A l.length c] ∧ Kd.C k128 W A l.length l ∧ l.length ≤ c ∧ l.length ≤ maxLen ∧ (∀ v ∈ l, (Lit.int .i64 v.f0).wf = true ∧ (Lit.int .i64 v.f1).wf = true ∧ (Lit.int .i64 v.f2.f0).wf = true ∧ (Lit.int .i64 v.f2.f1).wf = true) := by
  haveI : Inhabited S128 := ⟨z128⟩
  refine rd_slice (d := k128) (wf := fun v => (Lit.int .i64 v.f0).wf = true ∧ (Lit.int .i64 v.f1).wf = true ∧ (Lit.int .i64 v.f2.f0).wf = true ∧ (Lit.int .i64 v.f2.f1).wf = true) (by kernel_rfl) Try.underlying40 ?_ h
  intro n cs x h
  obtain ⟨a_f0, a_f1, a_f2_f0, a_f2_f1, rfl, w0, w1, w2, w3⟩ := rd128 h
  exact ⟨(⟨a_f0, a_f1, (⟨a_f2_f0, a_f2_f1⟩ : S126)⟩ : S128), k128_mk _ _, w0, w1, w2, w3⟩
theorem rd42 {W : World} {base n : Nat} {spare : Nat → Bool} {held : Bool} {cs : List Value} {x : DataW H × List MemPlace} (h : DataW.trod enc Try.prog W base spare held n 42 cs = some x) : ∃ (a_f0 : Int) (A_f1 : Option Addr) (c_f1 : Nat) (l_f1 : List (S128)), cs = [.int .i64 a_f0, .slice A_f1 l_f1.length c_f1] ∧ (Lit.int .i64 a_f0).wf = true ∧ Kd.C k128 W A_f1 l_f1.length l_f1 ∧ l_f1.length ≤ c_f1 ∧ l_f1.length ≤ maxLen ∧ (∀ yl_f1 ∈ l_f1, (Lit.int .i64 yl_f1.f0).wf = true ∧ (Lit.int .i64 yl_f1.f1).wf = true ∧ (Lit.int .i64 yl_f1.f2.f0).wf = true ∧ (Lit.int .i64 yl_f1.f2.f1).wf = true) := by
  obtain ⟨xs, m, _, _, hl, hx, hf⟩ := DataW.trod_struct Try.underlying42 h
  have hC : Program.cellsOf Try.prog 42 = 2 := by kernel_rfl
  rw [hC] at hl
  obtain ⟨e0, e1, rfl⟩ := list2 hl
  have hc0 : Program.cellsOf Try.prog 3 = 1 := by kernel_rfl
  obtain ⟨y0, g0⟩ : ∃ y, DataW.trod enc Try.prog W base spare held m 3 ((([e0, e1] : List Value).drop 0).take (Program.cellsOf Try.prog 3)) = some y := some_of hx (by decide) (hf 0 _ rfl)
  rw [hc0] at g0
  have hc1 : Program.cellsOf Try.prog 40 = 1 := by kernel_rfl
  obtain ⟨y1, g1⟩ : ∃ y, DataW.trod enc Try.prog W base spare held m 40 ((([e0, e1] : List Value).drop 1).take (Program.cellsOf Try.prog 40)) = some y := some_of hx (by decide) (hf 1 _ rfl)
  rw [hc1] at g1
  obtain ⟨a0, q0, w0_0⟩ := rd3 (cs := [e0]) g0
  simp only [List.cons.injEq, and_true] at q0
  subst q0
  obtain ⟨A1, c1, l1, q1, w1_0, w1_1, w1_2, w1_3⟩ := rd40 (cs := [e1]) g1
  simp only [List.cons.injEq, and_true] at q1
  subst q1
  exact ⟨a0, A1, c1, l1, rfl, w0_0, w1_0, w1_1, w1_2, w1_3⟩
end
set_option maxRecDepth 100000 in
theorem lifted (os : Os) (started : os.Started) (H : Type) (enc : TypeId × Value → H) :
    ReturnsInHanded {} Try.checked os 7 .any (Rows.fnExactLatestTimesSpec.pre6 enc Try.prog Try.f7 Rows.fnExactLatestTimesRow.domain false) (Rows.fnExactLatestTimesSpec.post enc Try.prog Try.f7 false true false false) := by
  refine returnsInHanded_of_change_sized (C := Try.checked) own started (by kernel_rfl) Try.func7
    (ChangeSpec.witness6 (enc := enc) (C := Try.checked) false ⟨#[], #[.agg #[.int .i64 0, .slice none 0 0]], []⟩ 8 (by kernel_rfl) (by kernel_rfl) (by kernel_rfl) (by kernel_rfl)) ?_
  intro W base args ds gs before hval0 hW hcnd hsz0 _
  have hval : ∀ (j : Nat) t v, Try.f7.params[j]? = some t → args[j]? = some v → Value.okWide Try.prog W .any base t v := hval0
  have hW' := hW
  obtain ⟨p, q, hA0, hV, rfl, hfz, hnd⟩ := hW
  have hA : DataW.TrodAll enc Try.prog W 0 (fun _ => true) true Try.f7.params.toList args.toList ds p := hA0
  rw [Try.params7] at hA hval
  obtain ⟨v0, vs0, d0, ds0, p0, q0, hargs, rfl, rfl, h0, r0⟩ := trodAll_cons hA
  obtain ⟨rfl, rfl, rfl⟩ := trodAll_nil r0
  obtain rfl : args = #[v0] := by cases args; simp_all
  obtain ⟨rfl, rfl⟩ := trodVars_none hV
  have k0 := h0
  have lt0 := trod_lt' k0
  obtain ⟨cs0, rfl, hz0⟩ := okWide_struct Try.underlying42 (hval 0 42 v0 rfl rfl)
  obtain ⟨fuel0, hf0⟩ := h0
  obtain ⟨a0_0, A0_1, c0_1, l0_1, ec0, z0_0, hr0_1, hc0_1, z0_1, z0_2⟩ := rd42 hf0
  obtain rfl := agg_list (show cs0.toList = _ from ec0)
  refine (laws_FnExactLatestTimes.walk Own.FnExactLatestTimes a0_0 _ _ l0_1 W hr0_1 hc0_1 z0_0 z0_1 z0_2).mono fun e W' ⟨he, bel⟩ => ?_
  subst he
  exact ⟨_, rfl, _, _, _, [], _, [], hW', trodAll_mk1 (shut_bool Try.underlying4 _), (trodAll_cons_mk (Below.trod laidOut (by kernel_rfl) (of_decide_eq_true (by kernel_rfl)) k0 bel lt0) trodAll_mk0), rfl, bel.frame _, fun h => by cases h⟩
theorem over : Rows.fnExactLatestTimesRow.holds Try.pinned (OpenSpec.ofChange Rows.fnExactLatestTimesSpec) :=
  OpenClaim.holds_of_wide 7 Try.f7 rfl rfl rfl rfl rfl rfl rfl ⟨rfl, rfl, rfl, rfl, rfl⟩ rfl rfl rfl rfl rfl (by kernel_rfl) Try.func7 (by kernel_rfl)
    (of_decide_eq_true (by kernel_rfl)) (by unfold Func.isWrapper; first | (rw [if_pos (by decide +kernel)]; kernel_rfl) | (rw [if_neg (by decide +kernel)]; exact ⟨rfl, rfl⟩))
    (fun os started H enc _ => lifted os started H enc)
theorem proved : Rows.FnExactLatestTimesSaid := over
#print axioms proved
end Go.Proofs.Ytbbblnmngjhadaa.fnExactLatestTimes
namespace Go.Proofs.Ytbbblnmngjhadaa
/-- The row, under a short name, for the claim. -/
theorem fnExactLatestTimes_holds : Rows.FnExactLatestTimesSaid := fnExactLatestTimes.proved
end Go.Proofs.Ytbbblnmngjhadaa
