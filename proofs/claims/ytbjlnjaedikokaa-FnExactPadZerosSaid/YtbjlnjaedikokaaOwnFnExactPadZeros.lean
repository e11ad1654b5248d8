/- The law FnExactPadZeros answers true for every text and length. No condition. -/
import Derived.Test.YtbjlnjaedikokaaQFnExactPadZerosx1
import Derived.Test.YtbjlnjaedikokaaThy
namespace Go.Proofs.Ytbjlnjaedikokaa.Own
open Go.RowKit Go.Proofs.Ytbjlnjaedikokaa.QFnExactPadZeros Go.Proofs.YtbjlnjaedikokaaW.PrintWords Go.Proofs.YtbjlnjaedikokaaW.PrintLast Go.Proofs.YtbjlnjaedikokaaW.PrintMore Go.Proofs.YtbjlnjaedikokaaT
set_option linter.unusedVariables false
set_option linter.unusedSimpArgs false

def padL : Nat → ByteArray → ByteArray
  | 0, x => x
  | d + 1, x => padL d ((⟨#[48]⟩ : ByteArray) ++ x)
theorem padL_eq : ∀ (d : Nat) (x : ByteArray), padL d x = (⟨(Lib.repeatL [48] d).toArray⟩ : ByteArray) ++ x
  | 0, x => by
    apply ByteArray.ext
    simp [padL, Lib.repeatL]
  | d + 1, x => by
    rw [padL, padL_eq d, Lib.repeatL_add [48] d 1, Lib.repeatL_one]
    apply ByteArray.ext
    simp [ByteArray.data_append]
theorem size48 (x : ByteArray) : ((⟨#[48]⟩ : ByteArray) ++ x).size = 1 + x.size := by rw [ByteArray.size_append]; rfl
def padM (x : ByteArray) (n : Int) : ByteArray := if n > 2000 then x else padL (n - x.size).toNat x
theorem sPad_l (n : Int) (hn : n ≤ 2000) : ∀ (d : Nat) (x : ByteArray), (x.size : Int) + d = n → Ev (fun k => spec_PadZeros.l0 k x n) (padL d x)
  | 0, x, h => suc (f := fun _ => some x) (fun k => by rw [spec_PadZeros.l0, if_neg (by omega)]) now
  | d + 1, x, h => by
    refine suc (f := fun k => spec_PadZeros.l0 k ((⟨#[48]⟩ : ByteArray) ++ x) n) (fun k => ?_) (sPad_l n hn d _ (by rw [size48]; omega))
    rw [spec_PadZeros.l0, if_pos (by omega), if_pos (by omega)]
theorem sPad (x : ByteArray) (n : Int) : Ev (fun k => spec_PadZeros.f k x n) (padM x n) := by
  unfold spec_PadZeros.f padM
  by_cases h : n > 2000
  · rw [if_pos h]; exact ifp h now
  · refine ifn h ?_
    rw [if_neg h]
    by_cases c : (x.size : Int) < n
    · exact sPad_l n (by omega) (n - x.size).toNat x (by omega)
    · rw [show (n - (x.size : Int)).toNat = 0 by omega]
      exact suc (f := fun _ => some x) (fun k => by rw [spec_PadZeros.l0, if_neg c]) now
theorem iPad (x : ByteArray) (n : Int) : impl_PadZeros.f x n = some (padM x n) := by
  unfold impl_PadZeros.f padM
  by_cases c : (x.size : Int) ≥ n
  · rw [if_pos c]
    by_cases h : n > 2000
    · rw [if_pos h]
    · rw [if_neg h, show (n - (x.size : Int)).toNat = 0 by omega]; rfl
  · rw [if_neg c]
    by_cases h : n > 2000
    · rw [if_pos h, if_pos h]
    · rw [if_neg h, if_neg h, w64 (by omega) (by omega)]
      unfold strings_Repeat.f
      rw [if_pos ⟨by omega, by omega, by decide⟩]
      simp only [Option.bind_some]
      have hz : (⟨(Lib.repeatL (⟨#[48]⟩ : ByteArray).data.toList (n - (x.size : Int)).toNat).toArray⟩ : ByteArray).size = (n - (x.size : Int)).toNat := by
        show (Lib.repeatL [48] (n - (x.size : Int)).toNat).toArray.size = _
        rw [List.size_toArray, Lib.repeatL_length]; simp
      rw [hz, if_pos (by omega), padL_eq]

theorem FnExactPadZeros : laws_FnExactPadZeros.Pure := by
  intro x n hx hn
  refine Ev.rounds ?_
  unfold laws_FnExactPadZeros.f
  by_cases h1 : (x.size : Int) > 1048576
  · exact ifp h1 now
  exact ifn h1 (bev (sPad x n) (bnd (iPad x n) (ifp rfl now)))

end Go.Proofs.Ytbjlnjaedikokaa.Own
