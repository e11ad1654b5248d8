/- The row of the law FnIntervals: for every input the law answers true, and its arguments read behind the call as they did before. No condition beyond the row's own. -/
import Derived.Test.YtbjlnjaedikokaaDoorRows
import Derived.Test.YtbjlnjaedikokaaDoorAid
import Derived.Test.YtbjlnjaedikokaaDoorQFnIntervalsx7
import Derived.Test.YtbjlnjaedikokaaDoorOwnFnIntervals
import Derived.Test.YtbjlnjaedikokaaDoorTbC
import Derived.Test.YtbjlnjaedikokaaDoorTie
import Derived.Test.YtbjlnjaedikokaaDoorCards
import Derived.LaidMore
import Derived.LaidHandle
import Derived.LaidLaws
import Derived.Stop.LaidErr
import Derived.Stop.Joined
import Derived.SevenTiedAt
import Derived.Lib.LaidTab
import Derived.JoinedOf
import Derived.WalkKit
import Derived.ProofKit
import Derived.OpenShut
import Derived.ShutString
import Derived.ChangeOld
import Derived.Below
import Derived.SizedLaws
import Derived.Carry
namespace Go.Proofs.YtbjlnjaedikokaaDoor.fnIntervals
open Go.ChangeShapes Go.WideShapes Go.ChangeAt Go.RowKit Go.Proofs.YtbjlnjaedikokaaDoorA Go.Proofs.YtbjlnjaedikokaaDoor.QFnIntervals Go.Proofs.YtbjlnjaedikokaaDoorW.PrintWords
open Go.ChangeMaps (open_string shut_string)
set_option linter.unusedVariables false
set_option linter.unusedSimpArgs false
theorem own : ownKnob Tryd.prog.godebug = none := by kernel_rfl
theorem laidOut : laidOutB Tryd.prog = true := by kernel_rfl
section
variable {H : Type} {enc : TypeId × Value → H}
theorem rd5 {W : World} {base n : Nat} {spare : Nat → Bool} {held : Bool} {cs : List Value} {x : DataW H × List MemPlace} (h : DataW.trod enc Tryd.prog W base spare held n 5 cs = some x) : ∃ a : Int, cs = [.int .u8 a] ∧ (Lit.int .u8 a).wf = true := by
  obtain ⟨a, h1, _, h2⟩ := DataW.trod_int Tryd.underlying5 h
  exact ⟨a, h1, h2⟩
theorem rd36 {W : World} {base n : Nat} {spare : Nat → Bool} {held : Bool} {cs : List Value} {x : DataW H × List MemPlace} (h : DataW.trod enc Tryd.prog W base spare held n 36 cs = some x) : ∃ (A : Option Addr) (c : Nat) (l : List Int), cs = [.slice A l.length c] ∧ Kd.C (Kd.int .u8) W A l.length l ∧ l.length ≤ c ∧ l.length ≤ maxLen ∧ (∀ v ∈ l, (Lit.int .u8 v).wf = true) := by
  haveI : Inhabited Int := ⟨0⟩
  refine rd_slice (d := (Kd.int .u8)) (wf := fun v => (Lit.int .u8 v).wf = true) (by kernel_rfl) Tryd.underlying36 ?_ h
  intro n cs x h
  obtain ⟨a, rfl, w0⟩ := rd5 h
  exact ⟨a, rfl, w0⟩
end
abbrev LD : List (String × DataW Unit) := Rows.fnIntervalsRow.laid
theorem door_met (os : Os) (args : Array Value) : laidMetH Tryd.prog LD ((World.doorLaid Tryd.prog 62 os).forCall (fun _ _ => 0) ⟨#[], args, []⟩).memory :=
  laidMetH_of_parts3 (fuel := 8) (laidMet_of_run' 8 (by kernel_rfl) (by kernel_rfl)) (by kernel_rfl) (by kernel_rfl)
theorem star : "*" ++ "errors.errorString" = "*errors.errorString" := by decide
theorem row107 (u : TypeId) (h : Tryd.prog.typeName? 3 u = some "*errors.errorString") : u = 107 :=
  typeName_ptr_named (nm := "errors.errorString") (by rw [star]; kernel_rfl) (by kernel_rfl) (by decide) u (by rw [star]; exact h)
theorem of_laid {W : World} (h : laidMetH Tryd.prog LD W) (hsh : W.ShapedOpen Tryd.prog) : Tb W := by
  rw [MakeChecks.laidMetH_plain _ _ _ (by kernel_rfl)] at h
  have h2 := h.tail.tail
  have hg : Tryd.prog.globalNamed "internal/strconv.uint64pow10" = some 3 := by kernel_rfl
  have hty : (Tryd.prog.globals[3]?).map (·.type) = some 102 := by kernel_rfl
  have ht : Tryd.prog.underlying 102 = some (.array 20 87) := by kernel_rfl
  have he : Tryd.prog.underlying 87 = some (.int .u64) := by kernel_rfl
  have hce : Tryd.prog.cellsOf 87 = 1 := by kernel_rfl
  have hct : Tryd.prog.cellsOf 102 = 20 := by kernel_rfl
  have q1 : Tryd.prog.globalNamed "strconv.ErrRange" = some 1 := by kernel_rfl
  have q2 : (Tryd.prog.globals[1]?).map (·.type) = some 53 := by kernel_rfl
  have q3 : Tryd.prog.globalNamed "strconv.ErrSyntax" = some 0 := by kernel_rfl
  have q4 : (Tryd.prog.globals[0]?).map (·.type) = some 53 := by kernel_rfl
  have c109 : Tryd.prog.cellsOf 109 = 1 := by kernel_rfl
  have c9 : Tryd.prog.cellsOf 9 = 1 := by kernel_rfl
  obtain ⟨a1, s1, v1, _, _, _⟩ := laid_sentinel h2.tail q1 q2 Tryd.underlying53 row107 Tryd.underlying107 Tryd.underlying109 rfl rfl Tryd.underlying9 c109 c9
  obtain ⟨a0, s0, v0, _, _, _⟩ := laid_sentinel h2.tail.tail q3 q4 Tryd.underlying53 row107 Tryd.underlying107 Tryd.underlying109 rfl rfl Tryd.underlying9 c109 c9
  exact ⟨⟨Lib.tabIs_of_head hg hty ht he hce hct h2, ⟨_, _, v0⟩, ⟨_, _, v1⟩⟩, maxLen_of hsh⟩
set_option maxRecDepth 100000 in
theorem lifted (os : Os) (started : os.Started) (H : Type) (enc : TypeId × Value → H) :
    ReturnsInHanded {} Tryd.checked os 8 .any (fun w args => (Rows.fnIntervalsSpec.pre enc Tryd.prog Tryd.f8 [] false w args ∧ laidMetH Tryd.prog LD w) ∧ sizedMet enc Tryd.prog Tryd.f8 (OpenSpec.ofChange Rows.fnIntervalsSpec) false w args)
      (Rows.fnIntervalsSpec.post enc Tryd.prog Tryd.f8 false true false false) := by
  refine returnsInHanded_of_change_andS (C := Tryd.checked) (X := fun w _ => laidMetH Tryd.prog LD w) (fun _ _ _ hh h => h.of_heap hh) own started (by kernel_rfl) Tryd.func8
    (ChangeSpec.witness_shaped (enc := enc) (C := Tryd.checked) (os := os) (X := fun w _ => laidMetH Tryd.prog LD w) false (World.doorLaid Tryd.prog 62 os) #[.slice none 0 0] 8 rfl (World.shaped_of_RefB (by kernel_rfl) (by kernel_rfl)) (by kernel_rfl) (by kernel_rfl) (by kernel_rfl) (door_met os _)) ?_
  intro W base args ds gs before hval0 hW hcnd hsz0 hL hsh
  have hT := of_laid hL hsh
  have hval : ∀ (j : Nat) t v, Tryd.f8.params[j]? = some t → args[j]? = some v → Value.okWide Tryd.prog W .any base t v := hval0
  have hW' := hW
  obtain ⟨p, q, hA0, hV, rfl, hfz, hnd⟩ := hW
  have hA : DataW.TrodAll enc Tryd.prog W 0 (fun _ => true) true Tryd.f8.params.toList args.toList ds p := hA0
  rw [Tryd.params8] at hA hval
  obtain ⟨v0, vs0, d0, ds0, p0, q0, hargs, rfl, rfl, h0, r0⟩ := trodAll_cons hA
  obtain ⟨rfl, rfl, rfl⟩ := trodAll_nil r0
  obtain rfl : args = #[v0] := by cases args; simp_all
  obtain ⟨rfl, rfl⟩ := trodVars_none hV
  have k0 := h0
  have lt0 := trod_lt' k0
  obtain ⟨a0_, len0_, cap0_, rfl⟩ := okWide_slice Tryd.underlying36 (hval 0 36 v0 rfl rfl)
  obtain ⟨fuel0, hf0⟩ := h0
  obtain ⟨A0, c0, l0, ec0, hr0, hc0, z0_0, z0_1⟩ := rd36 hf0
  simp only [Value.cells, List.cons.injEq, and_true, Value.slice.injEq] at ec0
  obtain ⟨rfl, rfl, rfl⟩ := ec0
  refine (laws_FnIntervals.walk Own.FnIntervals _ _ l0 W  hT hr0 hc0 z0_0 z0_1).mono fun e W' ⟨he, bel⟩ => ?_
  subst he
  exact ⟨_, rfl, _, _, _, [], _, [], hW', trodAll_mk1 (shut_bool Tryd.underlying4 _), (trodAll_cons_mk (Below.trod laidOut (by kernel_rfl) (of_decide_eq_true (by kernel_rfl)) k0 bel lt0) trodAll_mk0), rfl, bel.frame _, fun h => by cases h⟩
theorem stood_params {P : Program} {fn : Func} (h : (fn.params.toList.all fun t => !P.wantsStandIn t) = true) (j : Nat) (t : TypeId) (ht : fn.params[j]? = some t) : P.wantsStandIn t = false := by
  have := List.all_eq_true.1 h t (by
    have h2 : fn.params.toList[j]? = some t := by simpa using ht
    exact List.mem_of_getElem? h2)
  simpa using this
theorem over : Rows.fnIntervalsRow.holds Tryd.pinned (OpenSpec.ofChange Rows.fnIntervalsSpec) :=
  OpenClaim.holds_of_wide 8 Tryd.f8 rfl rfl rfl rfl rfl rfl rfl ⟨rfl, rfl, rfl, rfl, rfl⟩ rfl rfl rfl rfl rfl (by kernel_rfl) Tryd.func8 (by kernel_rfl)
    (of_decide_eq_true (by kernel_rfl)) (by unfold Func.isWrapper; first | (rw [if_pos (by decide +kernel)]; kernel_rfl) | (rw [if_neg (by decide +kernel)]; exact ⟨rfl, rfl⟩))
    (fun os started H enc _ => lifted os started H enc)
theorem proved : Rows.FnIntervalsCardSaid :=
  Claim7.holds_tied_plain_at .later [] [.data, .data, .data, .sentinel, .sentinel] true (true, Rows.fnIntervalsCard.stood.harness.2) true
    over (fun _ h => by cases h) (by kernel_rfl) (fun _ h => by cases h) fnIntervals_row_tie rfl ⟨rfl, rfl⟩ (by kernel_rfl) rfl
    (fun f fn hf hfn => by
      obtain rfl : f = 8 := Option.some.inj ((show Tryd.prog.funcNamed "loop.example/g00827/laws.FnIntervals" = some 8 by kernel_rfl).symm.trans hf) |>.symm
      obtain rfl : fn = Tryd.f8 := (Option.some.inj (Tryd.func8.symm.trans hfn)).symm
      exact ⟨by kernel_rfl, fun j t ht => stood_params (P := Tryd.prog) (fn := Tryd.f8) (by kernel_rfl) j t ht⟩)
    (by kernel_rfl)
#print axioms proved
end Go.Proofs.YtbjlnjaedikokaaDoor.fnIntervals
namespace Go.Proofs.YtbjlnjaedikokaaDoor
/-- The row, under a short name, for the claim. -/
theorem fnIntervals_holds : Rows.FnIntervalsCardSaid := fnIntervals.proved
end Go.Proofs.YtbjlnjaedikokaaDoor
