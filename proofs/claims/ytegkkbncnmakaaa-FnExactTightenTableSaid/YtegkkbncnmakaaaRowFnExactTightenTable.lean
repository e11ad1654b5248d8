/- The row of the law FnExactTightenTable: for every input the law answers true, and its arguments read behind the call as they did before. No condition beyond the row's own. -/
import Derived.Test.YtegkkbncnmakaaaRows
import Derived.Test.YtegkkbncnmakaaaAid
import Derived.Test.YtegkkbncnmakaaaQFnExactTightenTablex9
import Derived.Test.YtegkkbncnmakaaaOwnFnExactTightenTable
import Derived.WalkKit
import Derived.ProofKit
import Derived.OpenShut
import Derived.ShutString
import Derived.ChangeOld
import Derived.Below
import Derived.SizedLaws
import Derived.Carry
namespace Go.Proofs.Ytegkkbncnmakaaa.fnExactTightenTable
open Go.ChangeShapes Go.WideShapes Go.ChangeAt Go.RowKit Go.Proofs.YtegkkbncnmakaaaA Go.Proofs.Ytegkkbncnmakaaa.QFnExactTightenTable Go.Proofs.YtegkkbncnmakaaaW.PrintWords
open Go.ChangeMaps (open_string shut_string)
set_option linter.unusedVariables false
set_option linter.unusedSimpArgs false
theorem own : ownKnob Try.prog.godebug = none := by kernel_rfl
theorem laidOut : laidOutB Try.prog = true := by kernel_rfl
section
variable {H : Type} {enc : TypeId × Value → H}
theorem rd3 {W : World} {base n : Nat} {spare : Nat → Bool} {held : Bool} {cs : List Value} {x : DataW H × List MemPlace} (h : DataW.trod enc Try.prog W base spare held n 3 cs = some x) : ∃ a : Int, cs = [.int .i64 a] ∧ (Lit.int .i64 a).wf = true := by
  obtain ⟨a, h1, _, h2⟩ := DataW.trod_int Try.underlying3 h
  exact ⟨a, h1, h2⟩
theorem rd27 {W : World} {base n : Nat} {spare : Nat → Bool} {held : Bool} {cs : List Value} {x : DataW H × List MemPlace} (h : DataW.trod enc Try.prog W base spare held n 27 cs = some x) : ∃ (A : Option Addr) (c : Nat) (l : List Int), cs = [.slice A l.length c] ∧ Kd.C (Kd.int .i64) W A l.length l ∧ l.length ≤ c ∧ l.length ≤ maxLen ∧ (∀ v ∈ l, (Lit.int .i64 v).wf = true) := by
  haveI : Inhabited Int := ⟨0⟩
  refine rd_slice (d := (Kd.int .i64)) (wf := fun v => (Lit.int .i64 v).wf = true) (by kernel_rfl) Try.underlying27 ?_ h
  intro n cs x h
  obtain ⟨a, rfl, w0⟩ := rd3 h
  exact ⟨a, rfl, w0⟩
theorem rd42 {W : World} {base n : Nat} {spare : Nat → Bool} {held : Bool} {cs : List Value} {x : DataW H × List MemPlace} (h : DataW.trod enc Try.prog W base spare held n 42 cs = some x) : ∃ (a_f0 : Int) (A_f1 : Option Addr) (c_f1 : Nat) (l_f1 : List Int), cs = [.int .i64 a_f0, .slice A_f1 l_f1.length c_f1] ∧ (Lit.int .i64 a_f0).wf = true ∧ Kd.C (Kd.int .i64) W A_f1 l_f1.length l_f1 ∧ l_f1.length ≤ c_f1 ∧ l_f1.length ≤ maxLen ∧ (∀ yl_f1 ∈ l_f1, (Lit.int .i64 yl_f1).wf = true) := by
  obtain ⟨xs, m, _, _, hl, hx, hf⟩ := DataW.trod_struct Try.underlying42 h
  have hC : Program.cellsOf Try.prog 42 = 2 := by kernel_rfl
  rw [hC] at hl
  obtain ⟨e0, e1, rfl⟩ := list2 hl
  have hc0 : Program.cellsOf Try.prog 3 = 1 := by kernel_rfl
  obtain ⟨y0, g0⟩ : ∃ y, DataW.trod enc Try.prog W base spare held m 3 ((([e0, e1] : List Value).drop 0).take (Program.cellsOf Try.prog 3)) = some y := some_of hx (by decide) (hf 0 _ rfl)
  rw [hc0] at g0
  have hc1 : Program.cellsOf Try.prog 27 = 1 := by kernel_rfl
  obtain ⟨y1, g1⟩ : ∃ y, DataW.trod enc Try.prog W base spare held m 27 ((([e0, e1] : List Value).drop 1).take (Program.cellsOf Try.prog 27)) = some y := some_of hx (by decide) (hf 1 _ rfl)
  rw [hc1] at g1
  obtain ⟨a0, q0, w0_0⟩ := rd3 (cs := [e0]) g0
  simp only [List.cons.injEq, and_true] at q0
  subst q0
  obtain ⟨A1, c1, l1, q1, w1_0, w1_1, w1_2, w1_3⟩ := rd27 (cs := [e1]) g1
  simp only [List.cons.injEq, and_true] at q1
  subst q1
  exact ⟨a0, A1, c1, l1, rfl, w0_0, w1_0, w1_1, w1_2, w1_3⟩
theorem rd68 {W : World} {base n : Nat} {spare : Nat → Bool} {held : Bool} {cs : List Value} {x : DataW H × List MemPlace} (h : DataW.trod enc Try.prog W base spare held n 68 cs = some x) : ∃ (a_f0 : Int) (a_f1 : Int) (a_f2 : Int), cs = [.int .i64 a_f0, .int .i64 a_f1, .int .i64 a_f2] ∧ (Lit.int .i64 a_f0).wf = true ∧ (Lit.int .i64 a_f1).wf = true ∧ (Lit.int .i64 a_f2).wf = true := by
  obtain ⟨xs, m, _, _, hl, hx, hf⟩ := DataW.trod_struct Try.underlying68 h
  have hC : Program.cellsOf Try.prog 68 = 3 := by kernel_rfl
  rw [hC] at hl
  obtain ⟨e0, e1, e2, rfl⟩ := list3 hl
  have hc0 : Program.cellsOf Try.prog 3 = 1 := by kernel_rfl
  obtain ⟨y0, g0⟩ : ∃ y, DataW.trod enc Try.prog W base spare held m 3 ((([e0, e1, e2] : List Value).drop 0).take (Program.cellsOf Try.prog 3)) = some y := some_of hx (by decide) (hf 0 _ rfl)
  rw [hc0] at g0
  have hc1 : Program.cellsOf Try.prog 3 = 1 := by kernel_rfl
  obtain ⟨y1, g1⟩ : ∃ y, DataW.trod enc Try.prog W base spare held m 3 ((([e0, e1, e2] : List Value).drop 1).take (Program.cellsOf Try.prog 3)) = some y := some_of hx (by decide) (hf 1 _ rfl)
  rw [hc1] at g1
  have hc2 : Program.cellsOf Try.prog 3 = 1 := by kernel_rfl
  obtain ⟨y2, g2⟩ : ∃ y, DataW.trod enc Try.prog W base spare held m 3 ((([e0, e1, e2] : List Value).drop 2).take (Program.cellsOf Try.prog 3)) = some y := some_of hx (by decide) (hf 2 _ rfl)
  rw [hc2] at g2
  obtain ⟨a0, q0, w0_0⟩ := rd3 (cs := [e0]) g0
  simp only [List.cons.injEq, and_true] at q0
  subst q0
  obtain ⟨a1, q1, w1_0⟩ := rd3 (cs := [e1]) g1
  simp only [List.cons.injEq, and_true] at q1
  subst q1
  obtain ⟨a2, q2, w2_0⟩ := rd3 (cs := [e2]) g2
  simp only [List.cons.injEq, and_true] at q2
  subst q2
  exact ⟨a0, a1, a2, rfl, w0_0, w1_0, w2_0⟩
end
set_option maxRecDepth 100000 in
theorem lifted (os : Os) (started : os.Started) (H : Type) (enc : TypeId × Value → H) :
    ReturnsInHanded {} Try.checked os 12 .any (Rows.fnExactTightenTableSpec.pre6 enc Try.prog Try.f12 Rows.fnExactTightenTableRow.domain false) (Rows.fnExactTightenTableSpec.post enc Try.prog Try.f12 false true false false) := by
  refine returnsInHanded_of_change_sized (C := Try.checked) own started (by kernel_rfl) Try.func12
    (ChangeSpec.witness6 (enc := enc) (C := Try.checked) false ⟨#[], #[.agg #[.int .i64 0, .slice none 0 0], .agg #[.int .i64 0, .int .i64 0, .int .i64 0]], []⟩ 8 (by kernel_rfl) (by kernel_rfl) (by kernel_rfl) (by kernel_rfl)) ?_
  intro W base args ds gs before hval0 hW hcnd hsz0 _
  have hval : ∀ (j : Nat) t v, Try.f12.params[j]? = some t → args[j]? = some v → Value.okWide Try.prog W .any base t v := hval0
  have hW' := hW
  obtain ⟨p, q, hA0, hV, rfl, hfz, hnd⟩ := hW
  have hA : DataW.TrodAll enc Try.prog W 0 (fun _ => true) true Try.f12.params.toList args.toList ds p := hA0
  rw [Try.params12] at hA hval
  obtain ⟨v0, vs0, d0, ds0, p0, q0, hargs, rfl, rfl, h0, r0⟩ := trodAll_cons hA
  obtain ⟨v1, vs1, d1, ds1, p1, q1, rfl, rfl, rfl, h1, r1⟩ := trodAll_cons r0
  obtain ⟨rfl, rfl, rfl⟩ := trodAll_nil r1
  obtain rfl : args = #[v0, v1] := by cases args; simp_all
  obtain ⟨rfl, rfl⟩ := trodVars_none hV
  have k0 := h0
  have lt0 := trod_lt' k0
  obtain ⟨cs0, rfl, hz0⟩ := okWide_struct Try.underlying42 (hval 0 42 v0 rfl rfl)
  obtain ⟨fuel0, hf0⟩ := h0
  obtain ⟨a0_0, A0_1, c0_1, l0_1, ec0, z0_0, hr0_1, hc0_1, z0_1, z0_2⟩ := rd42 hf0
  obtain rfl := agg_list (show cs0.toList = _ from ec0)
  have k1 := h1
  have lt1 := trod_lt' k1
  obtain ⟨cs1, rfl, hz1⟩ := okWide_struct Try.underlying68 (hval 1 68 v1 rfl rfl)
  obtain ⟨fuel1, hf1⟩ := h1
  obtain ⟨a1_0, a1_1, a1_2, ec1, z1_0, z1_1, z1_2⟩ := rd68 hf1
  obtain rfl := agg_list (show cs1.toList = _ from ec1)
  refine (laws_FnExactTightenTable.walk Own.FnExactTightenTable a0_0 _ _ l0_1 a1_0 a1_1 a1_2 W hr0_1 hc0_1 z0_0 z0_1 z0_2 z1_0 z1_1 z1_2).mono fun e W' ⟨he, bel⟩ => ?_
  subst he
  exact ⟨_, rfl, _, _, _, [], _, [], hW', trodAll_mk1 (shut_bool Try.underlying4 _), (trodAll_cons_mk (Below.trod laidOut (by kernel_rfl) (of_decide_eq_true (by kernel_rfl)) k0 bel lt0) (trodAll_cons_mk (Below.trod laidOut (by kernel_rfl) (of_decide_eq_true (by kernel_rfl)) k1 bel lt1) trodAll_mk0)), rfl, bel.frame _, fun h => by cases h⟩
theorem over : Rows.fnExactTightenTableRow.holds Try.pinned (OpenSpec.ofChange Rows.fnExactTightenTableSpec) :=
  OpenClaim.holds_of_wide 12 Try.f12 rfl rfl rfl rfl rfl rfl rfl ⟨rfl, rfl, rfl, rfl, rfl⟩ rfl rfl rfl rfl rfl (by kernel_rfl) Try.func12 (by kernel_rfl)
    (of_decide_eq_true (by kernel_rfl)) (by unfold Func.isWrapper; first | (rw [if_pos (by decide +kernel)]; kernel_rfl) | (rw [if_neg (by decide +kernel)]; exact ⟨rfl, rfl⟩))
    (fun os started H enc _ => lifted os started H enc)
theorem proved : Rows.FnExactTightenTableSaid := over
#print axioms proved
end Go.Proofs.Ytegkkbncnmakaaa.fnExactTightenTable
namespace Go.Proofs.Ytegkkbncnmakaaa
/-- The row, under a short name, for the claim. -/
theorem fnExactTightenTable_holds : Rows.FnExactTightenTableSaid := fnExactTightenTable.proved
end Go.Proofs.Ytegkkbncnmakaaa
