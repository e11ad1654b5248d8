/- The row of the law FnExactFormatInterval: for every input the law answers true, and its arguments read behind the call as they did before. No condition beyond the row's own. -/
import Derived.Test.YtbjlnjaedikokaaDoorRows
import Derived.Test.YtbjlnjaedikokaaDoorAid
import Derived.Test.YtbjlnjaedikokaaDoorQFnExactFormatIntervalx2
import Derived.Test.YtbjlnjaedikokaaDoorOwnFnExactFormatInterval
import Derived.Test.YtbjlnjaedikokaaDoorTb
import Derived.Test.YtbjlnjaedikokaaDoorTie
import Derived.Test.YtbjlnjaedikokaaDoorCards
import Derived.LaidMore
import Derived.LaidHandle
import Derived.LaidLaws
import Derived.Stop.LaidErr
import Derived.Stop.Joined
import Derived.SevenTiedAt
import Derived.Lib.LaidTab
import Derived.JoinedOf
import Derived.WalkKit
import Derived.ProofKit
import Derived.OpenShut
import Derived.ShutString
import Derived.ChangeOld
import Derived.Below
import Derived.SizedLaws
import Derived.Carry
namespace Go.Proofs.YtbjlnjaedikokaaDoor.fnExactFormatInterval
open Go.ChangeShapes Go.WideShapes Go.ChangeAt Go.RowKit Go.Proofs.YtbjlnjaedikokaaDoorA Go.Proofs.YtbjlnjaedikokaaDoor.QFnExactFormatInterval Go.Proofs.YtbjlnjaedikokaaDoorW.PrintWords
open Go.ChangeMaps (open_string shut_string)
set_option linter.unusedVariables false
set_option linter.unusedSimpArgs false
theorem own : ownKnob Tryd.prog.godebug = none := by kernel_rfl
theorem laidOut : laidOutB Tryd.prog = true := by kernel_rfl
section
variable {H : Type} {enc : TypeId × Value → H}
theorem rd3 {W : World} {base n : Nat} {spare : Nat → Bool} {held : Bool} {cs : List Value} {x : DataW H × List MemPlace} (h : DataW.trod enc Tryd.prog W base spare held n 3 cs = some x) : ∃ a : Int, cs = [.int .i64 a] ∧ (Lit.int .i64 a).wf = true := by
  obtain ⟨a, h1, _, h2⟩ := DataW.trod_int Tryd.underlying3 h
  exact ⟨a, h1, h2⟩
theorem rd25 {W : World} {base n : Nat} {spare : Nat → Bool} {held : Bool} {cs : List Value} {x : DataW H × List MemPlace} (h : DataW.trod enc Tryd.prog W base spare held n 25 cs = some x) : ∃ (a_f0 : Int) (a_f1 : Int), cs = [.int .i64 a_f0, .int .i64 a_f1] ∧ (Lit.int .i64 a_f0).wf = true ∧ (Lit.int .i64 a_f1).wf = true := by
  obtain ⟨xs, m, _, _, hl, hx, hf⟩ := DataW.trod_struct Tryd.underlying25 h
  have hC : Program.cellsOf Tryd.prog 25 = 2 := by kernel_rfl
  rw [hC] at hl
  obtain ⟨e0, e1, rfl⟩ := list2 hl
  have hc0 : Program.cellsOf Tryd.prog 3 = 1 := by kernel_rfl
  obtain ⟨y0, g0⟩ : ∃ y, DataW.trod enc Tryd.prog W base spare held m 3 ((([e0, e1] : List Value).drop 0).take (Program.cellsOf Tryd.prog 3)) = some y := some_of hx (by decide) (hf 0 _ rfl)
  rw [hc0] at g0
  have hc1 : Program.cellsOf Tryd.prog 3 = 1 := by kernel_rfl
  obtain ⟨y1, g1⟩ : ∃ y, DataW.trod enc Tryd.prog W base spare held m 3 ((([e0, e1] : List Value).drop 1).take (Program.cellsOf Tryd.prog 3)) = some y := some_of hx (by decide) (hf 1 _ rfl)
  rw [hc1] at g1
  obtain ⟨a0, q0, w0_0⟩ := rd3 (cs := [e0]) g0
  simp only [List.cons.injEq, and_true] at q0
  subst q0
  obtain ⟨a1, q1, w1_0⟩ := rd3 (cs := [e1]) g1
  simp only [List.cons.injEq, and_true] at q1
  subst q1
  exact ⟨a0, a1, rfl, w0_0, w1_0⟩
end
abbrev LD : List (String × DataW Unit) := Rows.fnExactFormatIntervalRow.laid
theorem door_met (os : Os) (args : Array Value) : laidMetH Tryd.prog LD ((World.doorLaid Tryd.prog 62 os).forCall (fun _ _ => 0) ⟨#[], args, []⟩).memory :=
  laidMetH_of_parts3 (fuel := 8) (laidMet_of_run' 8 (by kernel_rfl) (by kernel_rfl)) (by kernel_rfl) (by kernel_rfl)
theorem of_laid {W : World} (h : laidMetH Tryd.prog LD W) : Tb W := by
  rw [MakeChecks.laidMetH_plain _ _ _ (by kernel_rfl)] at h
  have h2 := h.tail.tail
  have hg : Tryd.prog.globalNamed "internal/strconv.uint64pow10" = some 3 := by kernel_rfl
  have hty : (Tryd.prog.globals[3]?).map (·.type) = some 102 := by kernel_rfl
  have ht : Tryd.prog.underlying 102 = some (.array 20 87) := by kernel_rfl
  have he : Tryd.prog.underlying 87 = some (.int .u64) := by kernel_rfl
  have hce : Tryd.prog.cellsOf 87 = 1 := by kernel_rfl
  have hct : Tryd.prog.cellsOf 102 = 20 := by kernel_rfl
  exact Lib.tabIs_of_head hg hty ht he hce hct h2
set_option maxRecDepth 100000 in
theorem lifted (os : Os) (started : os.Started) (H : Type) (enc : TypeId × Value → H) :
    ReturnsInHanded {} Tryd.checked os 4 .any (fun w args => (Rows.fnExactFormatIntervalSpec.pre enc Tryd.prog Tryd.f4 [] false w args ∧ laidMetH Tryd.prog LD w) ∧ sizedMet enc Tryd.prog Tryd.f4 (OpenSpec.ofChange Rows.fnExactFormatIntervalSpec) false w args)
      (Rows.fnExactFormatIntervalSpec.post enc Tryd.prog Tryd.f4 false true false false) := by
  refine returnsInHanded_of_change_and (C := Tryd.checked) (X := fun w _ => laidMetH Tryd.prog LD w) (fun _ _ _ hh h => h.of_heap hh) own started (by kernel_rfl) Tryd.func4
    (ChangeSpec.witness_shaped (enc := enc) (C := Tryd.checked) (os := os) (X := fun w _ => laidMetH Tryd.prog LD w) false (World.doorLaid Tryd.prog 62 os) #[.agg #[.int .i64 0, .int .i64 0]] 8 rfl (World.shaped_of_RefB (by kernel_rfl) (by kernel_rfl)) (by kernel_rfl) (by kernel_rfl) (by kernel_rfl) (door_met os _)) ?_
  intro W base args ds gs before hval0 hW hcnd hsz0 hL _
  have hT := of_laid hL
  have hval : ∀ (j : Nat) t v, Tryd.f4.params[j]? = some t → args[j]? = some v → Value.okWide Tryd.prog W .any base t v := hval0
  have hW' := hW
  obtain ⟨p, q, hA0, hV, rfl, hfz, hnd⟩ := hW
  have hA : DataW.TrodAll enc Tryd.prog W 0 (fun _ => true) true Tryd.f4.params.toList args.toList ds p := hA0
  rw [Tryd.params4] at hA hval
  obtain ⟨v0, vs0, d0, ds0, p0, q0, hargs, rfl, rfl, h0, r0⟩ := trodAll_cons hA
  obtain ⟨rfl, rfl, rfl⟩ := trodAll_nil r0
  obtain rfl : args = #[v0] := by cases args; simp_all
  obtain ⟨rfl, rfl⟩ := trodVars_none hV
  have k0 := h0
  have lt0 := trod_lt' k0
  obtain ⟨cs0, rfl, hz0⟩ := okWide_struct Tryd.underlying25 (hval 0 25 v0 rfl rfl)
  obtain ⟨fuel0, hf0⟩ := h0
  obtain ⟨a0_0, a0_1, ec0, z0_0, z0_1⟩ := rd25 hf0
  obtain rfl := agg_list (show cs0.toList = _ from ec0)
  refine (laws_FnExactFormatInterval.walk Own.FnExactFormatInterval a0_0 a0_1 W  hT  z0_0 z0_1).mono fun e W' ⟨he, bel⟩ => ?_
  subst he
  exact ⟨_, rfl, _, _, _, [], _, [], hW', trodAll_mk1 (shut_bool Tryd.underlying4 _), (trodAll_cons_mk (Below.trod laidOut (by kernel_rfl) (of_decide_eq_true (by kernel_rfl)) k0 bel lt0) trodAll_mk0), rfl, bel.frame _, fun h => by cases h⟩
theorem stood_params {P : Program} {fn : Func} (h : (fn.params.toList.all fun t => !P.wantsStandIn t) = true) (j : Nat) (t : TypeId) (ht : fn.params[j]? = some t) : P.wantsStandIn t = false := by
  have := List.all_eq_true.1 h t (by
    have h2 : fn.params.toList[j]? = some t := by simpa using ht
    exact List.mem_of_getElem? h2)
  simpa using this
theorem over : Rows.fnExactFormatIntervalRow.holds Tryd.pinned (OpenSpec.ofChange Rows.fnExactFormatIntervalSpec) :=
  OpenClaim.holds_of_wide 4 Tryd.f4 rfl rfl rfl rfl rfl rfl rfl ⟨rfl, rfl, rfl, rfl, rfl⟩ rfl rfl rfl rfl rfl (by kernel_rfl) Tryd.func4 (by kernel_rfl)
    (of_decide_eq_true (by kernel_rfl)) (by unfold Func.isWrapper; first | (rw [if_pos (by decide +kernel)]; kernel_rfl) | (rw [if_neg (by decide +kernel)]; exact ⟨rfl, rfl⟩))
    (fun os started H enc _ => lifted os started H enc)
theorem proved : Rows.FnExactFormatIntervalCardSaid :=
  Claim7.holds_tied_plain_at .later [] [.data, .data, .data] true (true, Rows.fnExactFormatIntervalCard.stood.harness.2) true
    over (fun _ h => by cases h) (by kernel_rfl) (fun _ h => by cases h) fnExactFormatInterval_row_tie rfl ⟨rfl, rfl⟩ (by kernel_rfl) rfl
    (fun f fn hf hfn => by
      obtain rfl : f = 4 := Option.some.inj ((show Tryd.prog.funcNamed "loop.example/g00827/laws.FnExactFormatInterval" = some 4 by kernel_rfl).symm.trans hf) |>.symm
      obtain rfl : fn = Tryd.f4 := (Option.some.inj (Tryd.func4.symm.trans hfn)).symm
      exact ⟨by kernel_rfl, fun j t ht => stood_params (P := Tryd.prog) (fn := Tryd.f4) (by kernel_rfl) j t ht⟩)
    (by kernel_rfl)
#print axioms proved
end Go.Proofs.YtbjlnjaedikokaaDoor.fnExactFormatInterval
namespace Go.Proofs.YtbjlnjaedikokaaDoor
/-- The row, under a short name, for the claim. -/
theorem fnExactFormatInterval_holds : Rows.FnExactFormatIntervalCardSaid := fnExactFormatInterval.proved
end Go.Proofs.YtbjlnjaedikokaaDoor
