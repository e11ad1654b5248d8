/- The law FnExactJoin answers true for every list of texts and separator. No condition. -/
import Derived.Test.YtbjlnjaedikokaaQFnExactJoinx1
import Derived.Test.YtbjlnjaedikokaaThy
namespace Go.Proofs.Ytbjlnjaedikokaa.Own
open Go.RowKit Go.Proofs.Ytbjlnjaedikokaa.QFnExactJoin Go.Proofs.YtbjlnjaedikokaaW.PrintWords Go.Proofs.YtbjlnjaedikokaaW.PrintLast Go.Proofs.YtbjlnjaedikokaaW.PrintMore Go.Proofs.YtbjlnjaedikokaaT Go.Proofs.YtbjlnjaedikokaaT
set_option linter.unusedVariables false
set_option linter.unusedSimpArgs false

theorem rdS_at {l : List ByteArray} {i : Nat} (h : i < l.length) : rdOf ByteArray.empty l (i : Int) = l[i] := by unfold rdOf; simp [List.getD_eq_getElem?_getD, h]
theorem toStringS_l (x : List ByteArray) (hn : x.length ≤ 4194304) : ∀ (d i : Nat) (y : List ByteArray), i + d = x.length → y.length = x.length → (∀ j, j < i → y[j]? = x[j]?) → Ev (fun k => laws_toStringS.l0 k x y (i : Int)) x
  | 0, i, y, hd, hy, hj => by
    have e : y = x := by
      apply List.ext_getElem?; intro j
      by_cases h : j < i
      · exact hj j h
      · rw [List.getElem?_eq_none (by omega), List.getElem?_eq_none (by omega)]
    subst e
    exact suc (f := fun _ => some y) (fun k => by rw [laws_toStringS.l0, if_neg (by omega)]) now
  | d + 1, i, y, hd, hy, hj => by
    refine suc (f := fun k => laws_toStringS.l0 k x (y.set i (rdOf ByteArray.empty x i)) ((i + 1 : Nat) : Int)) (fun k => ?_) (toStringS_l x hn d (i + 1) _ (by omega) (by simp [hy]) (fun j h => ?_))
    · rw [laws_toStringS.l0, if_pos (by omega), if_pos (by omega), if_pos (by omega), up1 (by omega) (by omega)]; rfl
    · by_cases e : j = i
      · subst e; rw [rdS_at (by omega)]; simp [show j < y.length by omega, show j < x.length by omega]
      · rw [List.getElem?_set_ne (by omega)]; exact hj j (by omega)
theorem toStringS (x : List ByteArray) (hn : x.length ≤ 4194304) : Ev (fun k => laws_toStringS.f k x) x := by
  unfold laws_toStringS.f
  exact ifp (by omega) (ifp (by simp; omega) (toStringS_l x hn x.length 0 _ (by omega) (by simp) (fun j h => by omega)))
def sumS : List ByteArray → Nat
  | [] => 0
  | x :: l => x.size + sumS l
theorem szStringS_l (x : List ByteArray) (hn : x.length ≤ 4194304) (hs : ∀ y ∈ x, y.size ≤ 9223372036854775807) : ∀ (d i : Nat) (m : Int), i + d = x.length → 0 ≤ m → m ≤ 1048576 → ∃ r : Int, Ev (fun k => laws_szStringS.l0 k x m (i : Int)) r ∧ (r < 0 ∨ (sumS (x.drop i) : Int) ≤ m)
  | 0, i, m, hd, h0, h1 => by
    refine ⟨m, suc (f := fun _ => some m) (fun k => by rw [laws_szStringS.l0, if_neg (by omega)]) now, Or.inr ?_⟩
    rw [List.drop_eq_nil_of_le (by omega)]; simpa [sumS] using h0
  | d + 1, i, m, hd, h0, h1 => by
    have hi : i < x.length := by omega
    have hz := hs x[i] (List.getElem_mem _)
    have hw : wrap64 (m - (x[i].size : Int)) = m - (x[i].size : Int) := w64 (by omega) (by omega)
    have hu : ∀ k, laws_szStringS.l0 (k + 1) x m (i : Int) = (if m - (x[i].size : Int) < 0 then some (-1) else laws_szStringS.l0 k x (m - (x[i].size : Int)) ((i + 1 : Nat) : Int)) := by
      intro k
      rw [laws_szStringS.l0, if_pos (by omega), if_pos (by omega), rdS_at hi, hw, up1 (by omega) (by omega)]; rfl
    rw [List.drop_eq_getElem_cons hi]
    by_cases c : m - (x[i].size : Int) < 0
    · exact ⟨-1, suc hu (ifp c now), Or.inl (by omega)⟩
    · obtain ⟨r, hr, h⟩ := szStringS_l x hn hs d (i + 1) (m - (x[i].size : Int)) (by omega) (by omega) (by omega)
      refine ⟨r, suc hu (ifn c hr), ?_⟩
      rcases h with h | h
      · exact Or.inl h
      · exact Or.inr (by simp only [sumS]; omega)
theorem szStringS (x : List ByteArray) (hl : x.length ≤ 9223372036854775807) (hs : ∀ y ∈ x, y.size ≤ 9223372036854775807) : ∃ r : Int, Ev (fun k => laws_szStringS.f k x 1048576) r ∧ (r < 0 ∨ (x.length ≤ 1048576 ∧ sumS x ≤ 1048576)) := by
  unfold laws_szStringS.f
  have hw : wrap64 (1048576 - (x.length : Int)) = 1048576 - (x.length : Int) := w64 (by omega) (by omega)
  rw [hw]
  by_cases c : 1048576 - (x.length : Int) < 0
  · exact ⟨-1, ifp c now, Or.inl (by omega)⟩
  · obtain ⟨r, hr, h⟩ := szStringS_l x (by omega) hs x.length 0 (1048576 - (x.length : Int)) (by omega) (by omega) (by omega)
    rw [List.drop_zero] at h
    refine ⟨r, ifn c hr, ?_⟩
    rcases h with h | h
    · exact Or.inl h
    · exact Or.inr ⟨by omega, by omega⟩
def joinL (b : ByteArray) : ByteArray → List ByteArray → ByteArray
  | o, [] => o
  | o, x :: l => joinL b ((o ++ b) ++ x) l
def joinM (b : ByteArray) : List ByteArray → ByteArray
  | [] => ⟨#[]⟩
  | x :: l => joinL b ((⟨#[]⟩ : ByteArray) ++ x) l
theorem sJoin_l (l : List ByteArray) (hl : l.length ≤ 1048576) (b : ByteArray) (hb : b.size ≤ 1048576) (hs : sumS l ≤ 1048576) : ∀ (d i : Nat) (o : ByteArray), 0 < i → i + d = l.length → o.size + d * b.size + sumS (l.drop i) ≤ 1099513724928 → Ev (fun k => spec_Join.l0 k b o l (l.length : Int) (i : Int)) (joinL b o (l.drop i))
  | 0, i, o, h0, hd, ho => by
    rw [List.drop_eq_nil_of_le (by omega)]
    exact suc (f := fun _ => some o) (fun k => by rw [spec_Join.l0, if_neg (by omega)]) now
  | d + 1, i, o, h0, hd, ho => by
    have hi : i < l.length := by omega
    rw [List.drop_eq_getElem_cons hi] at ho ⊢
    simp only [sumS, Nat.succ_mul] at ho
    have e1 : (o ++ b).size = o.size + b.size := by rw [ByteArray.size_append]
    have e2 : ((o ++ b) ++ l[i]).size = o.size + b.size + l[i].size := by rw [ByteArray.size_append, e1]
    refine suc (f := fun k => spec_Join.l0 k b ((o ++ b) ++ l[i]) l (l.length : Int) ((i + 1 : Nat) : Int)) (fun k => ?_) (sJoin_l l hl b hb hs d (i + 1) _ (by omega) (by omega) (by rw [e2]; omega))
    rw [spec_Join.l0, if_pos (by omega), if_pos (by omega), if_pos (by omega), if_pos (by omega), rdS_at hi, if_pos (by omega), if_pos (by rw [e1]; omega), up1 (by omega) (by omega)]; rfl
theorem sJoin (l : List ByteArray) (hl : l.length ≤ 1048576) (b : ByteArray) (hb : b.size ≤ 1048576) (hs : sumS l ≤ 1048576) : Ev (fun k => spec_Join.f k l b) (joinM b l) := by
  unfold spec_Join.f
  cases l with
  | nil => exact suc (f := fun _ => some (⟨#[]⟩ : ByteArray)) (fun k => by rw [spec_Join.l0, if_neg (by simp)]) now
  | cons x l =>
    have hm : l.length * b.size ≤ 1048576 * 1048576 := Nat.mul_le_mul (by simp only [List.length_cons] at hl; omega) hb
    have e2 : ((⟨#[]⟩ : ByteArray) ++ x).size = x.size := by rw [ByteArray.size_append]; show 0 + x.size = x.size; omega
    have e3 : (⟨#[]⟩ : ByteArray).size = 0 := rfl
    have hs' := hs
    simp only [sumS] at hs'
    have ih := sJoin_l (x :: l) hl b hb hs l.length 1 ((⟨#[]⟩ : ByteArray) ++ x) (by omega) (by simp only [List.length_cons]; omega) (by rw [e2, show (x :: l).drop 1 = l from rfl]; omega)
    refine suc (f := fun k => spec_Join.l0 k b ((⟨#[]⟩ : ByteArray) ++ x) (x :: l) ((x :: l).length : Int) ((1 : Nat) : Int)) (fun k => ?_) ih
    rw [spec_Join.l0, if_pos (by simp only [List.length_cons]; omega), if_pos (by omega), if_pos (by simp only [List.length_cons]; omega), if_neg (by omega)]
    have e : rdOf ByteArray.empty (x :: l) 0 = x := rfl
    rw [e, e3, if_pos (by omega), w64 (i := (0 : Int) + 1) (by omega) (by omega)]; rfl
theorem joinL_data (b : ByteArray) : ∀ (l : List ByteArray) (o : ByteArray), (joinL b o l).data.toList = o.data.toList ++ (l.map fun x => b.data.toList ++ x.data.toList).flatten
  | [], o => by simp [joinL]
  | x :: l, o => by
    rw [joinL, joinL_data b l]
    simp [ByteArray.data_append]
theorem inter_cons (b x : List UInt8) : ∀ l : List (List UInt8), b.intercalate (x :: l) = x ++ (l.map fun y => b ++ y).flatten
  | [] => by simp [List.intercalate]
  | y :: l => by
    have ih := inter_cons b y l
    have e : b.intercalate (x :: y :: l) = x ++ (b ++ b.intercalate (y :: l)) := by simp [List.intercalate]
    rw [e, ih]; simp
theorem join_eq (b : ByteArray) (l : List ByteArray) : (⟨(joinB l b).toArray⟩ : ByteArray) = joinM b l := by
  apply ByteArray.ext
  apply Array.toList_inj.mp
  unfold joinB Lib.join
  cases l with
  | nil => rfl
  | cons x l =>
    rw [joinM, joinL_data, List.map_cons, inter_cons]
    simp [ByteArray.data_append, Function.comp_def]
theorem flat_len (b : ByteArray) (hb : b.size ≤ 1048576) : ∀ l : List ByteArray, ((l.map fun x => b.data.toList ++ x.data.toList).flatten).length ≤ l.length * 1048576 + sumS l
  | [] => by simp [sumS]
  | x :: l => by
    have := flat_len b hb l
    have e1 : b.data.toList.length = b.size := by rw [Array.length_toList]; rfl
    have e2 : x.data.toList.length = x.size := by rw [Array.length_toList]; rfl
    simp only [List.map_cons, List.flatten_cons, List.length_append, List.length_cons, sumS, Nat.succ_mul, e1, e2]
    omega
theorem iJoin (l : List ByteArray) (hl : l.length ≤ 1048576) (b : ByteArray) (hb : b.size ≤ 1048576) (hs : sumS l ≤ 1048576) : impl_Join.f l b = some (joinM b l) := by
  unfold impl_Join.f strings_Join.f
  have hlen : (joinB l b).length ≤ 140737488355328 := by
    unfold joinB Lib.join
    cases l with
    | nil => simp [List.intercalate]
    | cons x l =>
      have h := flat_len b hb l
      have e2 : x.data.toList.length = x.size := by rw [Array.length_toList]; rfl
      rw [List.map_cons, inter_cons, List.map_map, List.length_append, e2]
      simp only [sumS, List.length_cons] at hs hl
      have e : (List.map ((fun y => b.data.toList ++ y) ∘ fun x : ByteArray => x.data.toList) l) = l.map fun x => b.data.toList ++ x.data.toList := rfl
      rw [e]
      omega
  rw [if_pos ⟨by omega, hlen⟩, join_eq]; rfl
theorem eqStringS_l (x : List ByteArray) (hn : x.length ≤ 4194304) : ∀ (d i : Nat), i + d = x.length → Ev (fun k => laws_eqStringS.l0 k x x (i : Int)) true
  | 0, i, hd => suc (f := fun _ => some true) (fun k => by rw [laws_eqStringS.l0, if_neg (by omega)]) now
  | d + 1, i, hd => by
    refine suc (f := fun k => laws_eqStringS.l0 k x x ((i + 1 : Nat) : Int)) (fun k => ?_) (eqStringS_l x hn d (i + 1) (by omega))
    rw [laws_eqStringS.l0, if_pos (by omega), if_pos (by omega), if_pos (by omega), if_pos rfl, up1 (by omega) (by omega)]; rfl
theorem eqStringS (x : List ByteArray) (hn : x.length ≤ 4194304) : Ev (fun k => laws_eqStringS.f k x x) true := by
  unfold laws_eqStringS.f
  exact ifp rfl (eqStringS_l x hn x.length 0 (by omega))

theorem FnExactJoin : laws_FnExactJoin.Pure := by
  intro l b hl hy hb
  refine Ev.rounds ?_
  unfold laws_FnExactJoin.f
  by_cases h1 : (b.size : Int) > 1048576
  · exact ifp h1 now
  refine ifn h1 ?_
  obtain ⟨r, hr, h⟩ := szStringS l hl hy
  refine bev hr ?_
  by_cases c : r < 0
  · exact ifp c now
  refine ifn c ?_
  obtain ⟨h2, h3⟩ := h.resolve_left c
  have ht := toStringS l (by omega)
  exact bev ht (bev (sJoin l h2 b (by omega) h3) (bev ht (bnd (iJoin l h2 b (by omega) h3) (ifp rfl (bev ht (bev (eqStringS l (by omega)) (ifp rfl now)))))))

end Go.Proofs.Ytbjlnjaedikokaa.Own
