/- What a row's reading says of an argument's cells: whole numbers, strings, slices of any element type, as the print's kinds have them. No conditions. -/
import Derived.Test.YtbbblnmngjhadaaWWords
import Derived.Deep.Slices
import Derived.Lib.SmallJoins
import Derived.Carry
import Derived.ChangeArms
namespace Go.Proofs.YtbbblnmngjhadaaA
open Go.RowKit Go.ChangeShapes Go.WideShapes Go.Deep Go.Proofs.YtbbblnmngjhadaaW.PrintWords
variable {H : Type} {enc : TypeId × Value → H} {P : Program} {w : World} {base : Nat} {spare : Nat → Bool} {held : Bool}

theorem some_of {α : Type} {xs : List α} {n i : Nat} {o : Option α} (hl : xs.length = n) (hi : i < n) (h : o = xs[i]?) : ∃ y, o = some y :=
  ⟨_, h.trans (List.getElem?_eq_getElem (by omega))⟩

theorem rd_slice {α : Type} [Inhabited α] {d : Kd α} {wf : α → Prop} {t e : TypeId} (hsz : P.cellsOf e = d.sz) (ht : P.underlying t = some (.slice e))
    (hE : ∀ n cs x, DataW.trod enc P w base spare held n e cs = some x → ∃ v : α, d.K w v cs ∧ wf v)
    {fuel : Nat} {cs : List Value} {x : DataW H × List MemPlace} (h : DataW.trod enc P w base spare held fuel t cs = some x) :
    ∃ (A : Option Addr) (c : Nat) (l : List α), cs = [.slice A l.length c] ∧ d.C w A l.length l ∧ l.length ≤ c ∧ l.length ≤ maxLen ∧ ∀ v ∈ l, wf v := by
  rcases open_slice ht h with ⟨rfl, _⟩ | ⟨a, len, cap, m, n, D, Pl, rfl, _, hlc, hcm, hm, _, hel⟩
  · exact ⟨none, 0, [], rfl, Kd.C_nil d w, Nat.le_refl _, Nat.zero_le _, fun v hv => by cases hv⟩
  · have hlm : len ≤ m := by rw [hm]; split <;> omega
    have key : ∀ i, i < len → ∃ v : α, (∃ c, c.length = d.sz ∧ d.K w v c ∧ ∀ j u, c[j]? = some u → w.cell? (a.add (i * d.sz + j)) = some u) ∧ wf v := by
      intro i hi
      obtain ⟨cs', hc, ht'⟩ := hel i (by omega)
      obtain ⟨v, hv, hw⟩ := hE _ _ _ ht'
      obtain ⟨_, hl', hcell⟩ := World.cells?_some hc
      refine ⟨v, ⟨cs', by rw [hl', hsz], hv, fun j u hu => ?_⟩, hw⟩
      have hj : j < P.cellsOf e := by rw [← hl']; exact (List.getElem?_eq_some_iff.1 hu).1
      have := hcell j hj
      rw [Go.Deep.add_add, hsz] at this
      rw [this]; exact hu
    obtain ⟨f, hf⟩ := choose_lt key
    refine ⟨some a, cap, (List.range len).map f, ?_, ?_, ?_, ?_, ?_⟩
    · simp
    · refine ⟨rfl, ?_, fun _ => ⟨a, rfl, fun j p hj => ?_⟩⟩
      · simp only [List.length_map, List.length_range]; unfold maxLen at hcm; omega
      · have hj' : j < len := by
          have := (List.getElem?_eq_some_iff.1 hj).1
          simpa using this
        simp only [List.getElem?_map, List.getElem?_range hj', Option.map_some, Option.some.injEq] at hj
        subst hj
        exact (hf j hj').1
    · simpa using hlc
    · simp only [List.length_map, List.length_range]; omega
    · intro v hv
      simp only [List.mem_map, List.mem_range] at hv
      obtain ⟨i, hi, rfl⟩ := hv
      exact (hf i hi).2

theorem ne_nil_isEmpty (l : List UInt8) : (l != []) = !l.isEmpty := by cases l <;> rfl

theorem list1 {cs : List Value} (h : cs.length = 1) : ∃ a0, cs = [a0] := by
  match cs, h with
  | [a0], _ => exact ⟨_, rfl⟩
theorem list2 {cs : List Value} (h : cs.length = 2) : ∃ a0 a1, cs = [a0, a1] := by
  match cs, h with
  | [a0, a1], _ => exact ⟨_, _, rfl⟩
theorem list3 {cs : List Value} (h : cs.length = 3) : ∃ a0 a1 a2, cs = [a0, a1, a2] := by
  match cs, h with
  | [a0, a1, a2], _ => exact ⟨_, _, _, rfl⟩
theorem list4 {cs : List Value} (h : cs.length = 4) : ∃ a0 a1 a2 a3, cs = [a0, a1, a2, a3] := by
  match cs, h with
  | [a0, a1, a2, a3], _ => exact ⟨_, _, _, _, rfl⟩
theorem list5 {cs : List Value} (h : cs.length = 5) : ∃ a0 a1 a2 a3 a4, cs = [a0, a1, a2, a3, a4] := by
  match cs, h with
  | [a0, a1, a2, a3, a4], _ => exact ⟨_, _, _, _, _, rfl⟩
theorem list6 {cs : List Value} (h : cs.length = 6) : ∃ a0 a1 a2 a3 a4 a5, cs = [a0, a1, a2, a3, a4, a5] := by
  match cs, h with
  | [a0, a1, a2, a3, a4, a5], _ => exact ⟨_, _, _, _, _, _, rfl⟩
theorem agg_list {cs : Array Value} {l : List Value} (h : cs.toList = l) : cs = l.toArray := by cases cs; simp_all

theorem trod_lt' {t : TypeId} {v : Value} {d : DataW H} {ps : List MemPlace} (h : DataW.Trod enc P w base spare held t v d ps) : ∀ x ∈ ps, x.block < w.heap.size := by
  obtain ⟨m, hm⟩ := h; exact DataW.trod_lt m _ _ _ hm
end Go.Proofs.YtbbblnmngjhadaaA
