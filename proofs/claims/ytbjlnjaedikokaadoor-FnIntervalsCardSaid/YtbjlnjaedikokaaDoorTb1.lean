/- What a walk of the door's seat may lean on: the listed table of Go's own (powers of ten) stands as listed; strconv's two errors are no nil. -/
import Derived.Test.YtbjlnjaedikokaaDoorTb0
import Derived.Test.YtbjlnjaedikokaaDoorPShelf
import Derived.Lib.AtoiErrMem
namespace Go.Proofs
open Go.RowKit
theorem gSyn : ∃ g, Tryd.prog.globalNamed "strconv.ErrSyntax" = some g := Option.isSome_iff_exists.1 (by kernel_rfl)
theorem gRng : ∃ g, Tryd.prog.globalNamed "strconv.ErrRange" = some g := Option.isSome_iff_exists.1 (by kernel_rfl)
def Tb1 (w : World) : Prop := Tb0 w ∧ (∃ tp p, w.var? Tryd.prog "strconv.ErrSyntax" = some #[.iface tp p]) ∧ ∃ tp p, w.var? Tryd.prog "strconv.ErrRange" = some #[.iface tp p]
theorem Tb1.below {w w' : World} (h : Tb1 w) (hb : Below w.heap.size w w') : Tb1 w' := by
  obtain ⟨h0, ⟨t1, p1, h1⟩, ⟨t2, p2, h2⟩⟩ := h
  obtain ⟨g1, e1⟩ := gSyn
  obtain ⟨g2, e2⟩ := gRng
  exact ⟨h0.below hb, ⟨t1, p1, var?_below hb e1 (lt_of_var e1 h1) h1⟩, ⟨t2, p2, var?_below hb e2 (lt_of_var e2 h2) h2⟩⟩
theorem Tb1.itoa {w : World} (h : Tb1 w) (n : Int) (h0 : -9223372036854775808 ≤ n) (h1 : n ≤ 9223372036854775807) :
    Calls Tryd.prog 35 #[.int .i64 n] w fun e w' => e = .returned (.string ⟨(Lib.itoa n).toArray⟩) ∧ Below w.heap.size w w' := h.1.itoa n h0 h1
/-- strconv.Atoi: the number, or an error that is not nil. -/
def atoiO (l : List UInt8) : Option Int := match Lib.atoiAll l with | .ok v => some v | _ => none
theorem Tb1.atoi {w : World} (h : Tb1 w) (s : ByteArray) (hs : s.size ≤ 281474976710656) :
    Calls Tryd.prog 40 #[.string s] w fun e w' => (match atoiO s.data.toList with
      | some v => e = .returned (.tuple #[.int .i64 v, .nilIface])
      | none => ∃ (n : Int) (N : Nat), e = .returned (.tuple #[.int .i64 n, .iface 81 (.pointer (some ⟨N, 0, none⟩))])) ∧ Below w.heap.size w w' := by
  obtain ⟨h0, ⟨t1, p1, h1⟩, ⟨t2, p2, h2⟩⟩ := h
  unfold atoiO
  rcases hA : Lib.atoiAll s.data.toList with v | _ | _
  · refine (Tryd.strconv_Atoi_ok s (by omega) v hA w).mono fun e w' ⟨he, hw⟩ => ⟨he, ?_⟩
    rcases hw with rfl | ⟨t, rfl⟩
    · exact Below.refl _ _
    · exact Lib.bytesWorld_below w 5 t
  · exact (Tryd.strconv_Atoi_syntax_var s hs hA t1 p1 w h1).mono fun e w' ⟨N, he, _, _, hb⟩ => ⟨⟨0, N, he⟩, hb⟩
  · exact (Tryd.strconv_Atoi_range_var s hs hA t2 p2 w h2).mono fun e w' ⟨N, he, _, _, hb⟩ => ⟨⟨_, N, he⟩, hb⟩
theorem atoi_range {l : List UInt8} {v : Int} (h : atoiO l = some v) : -9223372036854775808 ≤ v ∧ v ≤ 9223372036854775807 := by
  unfold atoiO at h
  split at h
  · rename_i v' hA
    obtain rfl := Option.some.inj h
    cases l with
    | nil => cases hA
    | cons c r =>
      simp only [Lib.atoiAll] at hA
      generalize Lib.parseMag (if c.toNat = 43 ∨ c.toNat = 45 then r else c :: r) = m at hA
      rcases m with u | _ | _
      · simp only at hA
        split at hA
        · cases hA
        · split at hA
          · cases hA
          · injection hA with hA
            subst hA
            constructor <;> (split <;> omega)
      · cases hA
      · cases hA
  · cases h
#print axioms Tb1.atoi
end Go.Proofs
