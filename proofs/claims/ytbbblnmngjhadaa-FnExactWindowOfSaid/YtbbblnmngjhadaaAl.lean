/- Short names for lemmas that the printed walks name on every row. No conditions. -/
import Derived.Test.YtbbblnmngjhadaaWMore
import Derived.Test.YtbbblnmngjhadaaWLast
import Derived.Test.YtbbblnmngjhadaaWTab
import Derived.Test.YtbbblnmngjhadaaWKept
namespace Go.Proofs.YtbbblnmngjhadaaW.PrintWords
open Go.RowKit Go.Proofs.YtbbblnmngjhadaaW.PrintWords Go.Proofs.YtbbblnmngjhadaaW.PrintLast Go.Proofs.YtbbblnmngjhadaaW.PrintMore
theorem bA {w W : World} (h : Below w.heap.size w W) (o : Obj) : Below w.heap.size w (W.alloc o) := below_alloc h o
theorem bN {B : Nat} {w W : World} (h : Below B w W) (n : Nat) : Below B w (W.drewN n) := pw_below_drewN h n
theorem bD {B : Nat} {w W : World} (h : Below B w W) : Below B w W.drew := below_drew1 h
theorem bS {w W : World} {g j : Nat} {v : Value} (h : Below w.heap.size w W) (hg : w.heap.size ≤ g) : Below w.heap.size w (W.setCell ⟨g, j, none⟩ v) := below_set h hg
theorem kN {w : World} {g : Nat} {o : Obj} (h : w.heap[g]? = some o) (n : Nat) : (w.drewN n).heap[g]? = some o := blk_drewN h n
theorem kD {w : World} {g : Nat} {o : Obj} (h : w.heap[g]? = some o) : w.drew.heap[g]? = some o := blk_drew h
theorem kA {w : World} {g : Nat} {o : Obj} (h : w.heap[g]? = some o) (o' : Obj) : (w.alloc o').heap[g]? = some o := blk_alloc h o'
section
variable {α : Type} {d : Kd α} {e : Nat} {w : World} {base : Nat} {ok : Nat → Prop} {v : Value} {xs : List α}
theorem rA (h : d.R e w base ok v xs) (o : Obj) : d.R e (w.alloc o) base ok v xs := Kd.R_alloc h o
theorem rN (h : d.R e w base ok v xs) (m : Nat) : d.R e (w.drewN m) base ok v xs := Kd.R_drewN h m
theorem rD (h : d.R e w base ok v xs) : d.R e w.drew base ok v xs := Kd.R_drew h
end
theorem mK {p : Prop} (h : p) : Aside0 p := Aside0.mk h
theorem sT {α : Type _} (l : List α) (i : Nat) (a : α) : l.toArray.setIfInBounds i a = (l.set i a).toArray := List.setIfInBounds_toArray l i a
theorem sZ {α : Type _} {x : α} {xs : List α} {a : α} : (x :: xs).set 0 a = a :: xs := rfl
theorem sU {α : Type _} {x : α} {xs : List α} {i : Nat} {a : α} : (x :: xs).set (i + 1) a = x :: xs.set i a := rfl
/-! ### Steps with what Lean finds by itself left out -/
theorem bX {w w1 W : World} (H : Aside0 (Below w.heap.size w w1)) (h : Below w.heap.size w w1 → Below w.heap.size w W := by (intro h; repeat first|(with_reducible first|exact h|apply bA|apply bN|apply bD|refine bS ?_ (Aside0.out (by assumption)))|exact h)) : Below w.heap.size w W := h H.out
theorem kX {w W : World} {g : Nat} {o : Obj} (H : Aside0 (w.heap[g]? = some o)) (h : w.heap[g]? = some o → W.heap[g]? = some o := by (intro h; (with_reducible repeat first|apply kN|apply kD|apply kA); exact h)) : W.heap[g]? = some o := h H.out
theorem rX {α : Type} {d : Kd α} {e : Nat} {w W : World} {base : Nat} {ok : Nat → Prop} {v : Value} {xs : List α} (H : Aside0 (d.R e w base ok v xs)) (h : d.R e w base ok v xs → d.R e W base ok v xs := by (intro h; (with_reducible repeat first|apply rA|apply rN|apply rD); exact h)) : d.R e W base ok v xs := h H.out
theorem tX {w w1 W : World} {S : Nat → Prop} (H : Aside0 (Kept w w1 S)) (h : Kept w w1 S → Kept w W S := by (intro h; repeat (first|(with_reducible first|exact h|apply Kept.alloc|apply Kept.drewN|apply Kept.drew|refine Kept.setCell ?_ (.inr (Aside0.out (by assumption))) _)|exact h))) : Kept w W S := h H.out
theorem gX {g : Nat} {w w1 W : World} (hg : g = W.heap.size) (H : Aside0 (Below w.heap.size w w1)) (h : Below w.heap.size w w1 → Below w.heap.size w W := by (intro h; repeat first|(with_reducible first|exact h|apply bA|apply bN|apply bD|refine bS ?_ (Aside0.out (by assumption)))|exact h)) : w.heap.size ≤ g := hg ▸ (h H.out).size
theorem lX {g g' : Nat} {w W : World} {o : Obj} (hg : g' = W.heap.size) (H : Aside0 (w.heap[g]? = some o)) (h : w.heap[g]? = some o → W.heap[g]? = some o := by (intro h; (with_reducible repeat first|apply kN|apply kD|apply kA); exact h)) : g ≠ g' := hg ▸ Nat.ne_of_lt (blk_lt (h H.out))
theorem mX {g g' : Nat} {w W : World} {o : Obj} (hg : g' = W.heap.size) (H : Aside0 (w.heap[g]? = some o)) (h : w.heap[g]? = some o → W.heap[g]? = some o := by (intro h; (with_reducible repeat first|apply kN|apply kD|apply kA); exact h)) : g' ≠ g := hg ▸ Nat.ne_of_gt (blk_lt (h H.out))
theorem cX {α : Type} {d : Kd α} {w w1 W : World} {A : Option Addr} {n : Nat} {xs : List α} (H : Aside0 (d.C w A n xs)) (HB : Aside0 (Below w.heap.size w w1)) (h : d.C w1 A n xs → d.C W A n xs := by (intro h; repeat (first | exact h | (with_reducible refine Kd.C_alloc ?_ _) | (with_reducible refine Kd.C_drewN ?_ _) | (with_reducible refine Kd.C_drew ?_)))) : d.C W A n xs := h (Kd.C_below H.out HB.out)
theorem oX {p : Prop} (h : p := by first | (with_reducible assumption) | assumption) : p := h
def bs (i n : Nat) : Array Bool := (List.replicate i true ++ List.replicate (n - i) false).toArray
section
variable {P : Program} {ops : Array Oper} {Q : Exit → Act → World → Prop} {rest : List Oper} {o : Oper} {a : Act}
theorem bxE {W : World} (N : Tmp) (cs : Array Value) (t : TypeId)
    (h : ∀ g, g = W.heap.size → ∀ w1, w1.heap[g]? = some (.cells cs t (0, 0)) → Below W.heap.size W w1 → wpList P ops Q rest (a.put o.dst (.pointer (some ⟨g, 0, none⟩))) w1)
    (hd : o.dst = some N := by with_reducible rfl) (hgd : o.guard = none := by rfl)
    (hrun : (execOp a.eval o).run P W = .ok (.value (.pointer (some ⟨W.heap.size, 0, none⟩))) (W.alloc (.cells cs t (0, 0))) := by (go_simp <;> rfl)) : wpList P ops Q (o :: rest) a W := box_event hgd hd hrun h
theorem gsE {w : World} (N : Option Tmp) {f : FuncId} {fn : Func} {as : Array Operand} {ts : Array TypeId} (hf : P.funcs[f]? = some fn) (args : Array Value)
    (h : Calls P f args w fun e w' => ∃ v, e = .returned v ∧ wpList P ops Q rest (a.put N v) w')
    (hop : o.op = .call { callee := .value (.func f), args := as, argTypes := ts } := by with_reducible rfl) (hd : o.dst = N := by rfl) (hg : o.guard = none := by rfl)
    (hname : (fn.name == "runtime.NumGoroutine") = false := by kernel_rfl) (hb : fn.body.isSome = true := by rfl)
    (hargs : as.map a.eval = args := by (try simp only [List.map_toArray, List.map_cons, List.map_nil]); first | done | rfl | (simp only [List.length_drop, List.length_take]; rfl)) : wpList P ops Q (o :: rest) a w := goesL_ N hd hg hf hname hb args hop hargs h
theorem gsK {N : Option Tmp} {w : World} {K : Act → World → Prop} {f : FuncId} {fn : Func} {as : Array Operand} {ts : Array TypeId} (hf : P.funcs[f]? = some fn) (args : Array Value)
    (h : Calls P f args w fun e w' => ∃ v, e = .returned v ∧ K (a.put N v) w')
    (hw : Region.wanted o (yielded ops a.tmps) = true := by rfl) (hN : o.dst = N := by rfl) (hop : o.op = .call { callee := .value (.func f), args := as, argTypes := ts } := by rfl)
    (hname : (fn.name == "runtime.NumGoroutine") = false := by kernel_rfl) (hb : fn.body.isSome = true := by rfl)
    (hargs : as.map a.eval = args := by (try simp only [List.map_toArray, List.map_cons, List.map_nil]); first | done | rfl | (simp only [List.length_drop, List.length_take]; rfl)) : if Region.wanted o (yielded ops a.tmps) = true then Oper.wp P o a w K Q else K (a.put N undef) w := goes_ hf hname hb args hw hN hop hargs h
end
section
variable {P : Program} {ops : Array Oper} {Q : Exit → Act → World → Prop} {md : Region.Mode} {S : World → Prop} {ds : List Nat} {T : Bool × List (List Nat × List Nat)} {B : List Nat} {oi : Oper} {v : Value} {fuel : Nat} {l : Array Bool} {a a' : Act} {w : World}
theorem pL (i : Nat) (N : Tmp) (l' : Array Bool) (HT : Aside0 (rtab md ops = T)) (h : wpAnyLast P md ops Q S ds fuel l' a' w)
    (hi : ops[i]? = some oi := by rfl) (hN : oi.dst = some N := by rfl) (hc : anyT T l.toList l'.toList i = true := by kernel_rfl) (hQ : ∀ c a w, Q (.panic c) (a.put oi.dst v) w → Q (.panic c) a w := by exact fun _ _ _ h => h)
    (hw : Region.wanted oi (yielded ops a.tmps) = true := by rfl) (hy : ∀ w, (execOp a.eval oi).run P w = .ok (.value v) w := by (intro w'; go_simp; with_reducible rfl)) (ha : a.put (some N) v = a' := by (simp only [Act.put, sT, sZ, sU, i64_w, i32_w]; rfl)) : wpAnyLast P md ops Q S ds (fuel + 1) l a w :=
  pure_ l' hi hN (any_of HT.out hc) hQ (Or.inl ⟨hw, hy⟩) ha h
theorem pD (i : Nat) (N : Tmp) (l' : Array Bool) (HT : Aside0 (rtab md ops = T)) (h : wpAnyLast P md ops Q S ds fuel l' a' w)
    (hi : ops[i]? = some oi := by rfl) (hN : oi.dst = some N := by rfl) (hc : anyT T l.toList l'.toList i = true := by kernel_rfl) (hQ : ∀ c a w, Q (.panic c) (a.put oi.dst undef) w → Q (.panic c) a w := by exact fun _ _ _ h => h)
    (hw : Region.wanted oi (yielded ops a.tmps) = false := by rfl) (ha : a.put (some N) undef = a' := by (simp only [Act.put, sT, sZ, sU, i64_w, i32_w]; rfl)) : wpAnyLast P md ops Q S ds (fuel + 1) l a w :=
  pure_ l' hi hN (any_of HT.out hc) hQ (Or.inr ⟨hw, rfl⟩) ha h
theorem tL (i : Nat) (N : Tmp) (l' : Array Bool) (HT : Aside0 (rtab md ops = T)) (HW : Aside0 (waitsOk T.2 B = true)) (hS : S w) (h : wpAnyLast P md ops Q S ds fuel l' a' w)
    (hi : ops[i]? = some oi := by rfl) (hN : oi.dst = some N := by rfl) (hc : takeW T B ds l.toList l'.toList i = true := by kernel_rfl) (hQ : ∀ c a w, Q (.panic c) (a.put oi.dst v) w → Q (.panic c) a w := by exact fun _ _ _ h => h)
    (hw : Region.wanted oi (yielded ops a.tmps) = true := by rfl) (hy : ∀ w, S w → (execOp a.eval oi).run P w = .ok (.value v) w := by (intro w' hs_; obtain ⟨s_, hs_⟩ := hs_; go_simp; with_reducible rfl)) (ha : a.put (some N) v = a' := by (simp only [Act.put, sT, sZ, sU, i64_w, i32_w]; rfl)) : wpAnyLast P md ops Q S ds (fuel + 1) l a w :=
  take_ l' hi hN (take_ofW HT.out HW.out hc) hQ (Or.inl ⟨hw, hy⟩) hS ha h
end
section
variable {w w1 w2 W : World} {g g' : Nat} {o : Obj} {t : TypeId}
theorem q0 {a : Value} {s : List Value} (H : Aside0 (w.heap[g]? = some (.cells (List.toArray (a :: s)) t (0, 0)))) : w.cell? ⟨g, 0, none⟩ = some a := (blk_cell H.out 0).trans rfl
theorem q1 {a b : Value} {s : List Value} (H : Aside0 (w.heap[g]? = some (.cells (List.toArray (a :: b :: s)) t (0, 0)))) : w.cell? ⟨g, 1, none⟩ = some b := (blk_cell H.out 1).trans rfl
theorem q2 {a b c : Value} {s : List Value} (H : Aside0 (w.heap[g]? = some (.cells (List.toArray (a :: b :: c :: s)) t (0, 0)))) : w.cell? ⟨g, 2, none⟩ = some c := (blk_cell H.out 2).trans rfl
theorem q3 {a b c d : Value} {s : List Value} (H : Aside0 (w.heap[g]? = some (.cells (List.toArray (a :: b :: c :: d :: s)) t (0, 0)))) : w.cell? ⟨g, 3, none⟩ = some d := (blk_cell H.out 3).trans rfl
theorem fX {cs : Array Value} (H : Aside0 (w.heap[g]? = some (.cells cs t (0, 0)))) (i : Nat) : w.frozen? ⟨g, i, none⟩ = false := blk_frozen H.out i
theorem kB (H : Aside0 (w.heap[g]? = some o)) (hb : Below W.heap.size W w2) (h : w.heap[g]? = some o → W.heap[g]? = some o := by (intro h; (with_reducible repeat first|apply kN|apply kD|apply kA); exact h)) : Aside0 (w2.heap[g]? = some o) := ⟨blk_below (h H.out) hb⟩
theorem bB (H : Aside0 (Below w.heap.size w w1)) (hb : Below W.heap.size W w2) (h : Below w.heap.size w w1 → Below w.heap.size w W := by (intro h; repeat first|(with_reducible first|exact h|apply bA|apply bN|apply bD|refine bS ?_ (Aside0.out (by assumption)))|exact h)) : Aside0 (Below w.heap.size w w2) := ⟨below_step (h H.out) hb⟩
theorem kF {cs : Array Value} (H : Aside0 (w.heap[g]? = some (.cells cs t (0, 0)))) (hn : Aside0 (g ≠ g')) (h : w.heap[g]? = some (.cells cs t (0, 0)) → g ≠ g' → W.heap[g]? = some (.cells cs t (0, 0)) := by (intro h hn; (with_reducible repeat first|apply kN|apply kD|apply kA); (repeat (refine blk_far ?_ hn _; (with_reducible repeat first|apply kN|apply kD|apply kA))); exact h)) : W.heap[g]? = some (.cells cs t (0, 0)) := h H.out hn.out
theorem kP2 {x y a b : Value} (H : Aside0 (w.heap[g]? = some (.cells #[x, y] t (0, 0)))) (h : ((w.setCell ⟨g, 0, none⟩ a).setCell ⟨g, 1, none⟩ b).heap[g]? = some (.cells #[a, b] t (0, 0)) → W.heap[g]? = some (.cells #[a, b] t (0, 0)) := by (intro h; (with_reducible repeat first|apply kN|apply kD|apply kA); exact h)) : W.heap[g]? = some (.cells #[a, b] t (0, 0)) := h (blk_put (cs := #[a, y]) (blk_put H.out 0 a rfl) 1 b rfl)
theorem kP3 {x y z a b c : Value} (H : Aside0 (w.heap[g]? = some (.cells #[x, y, z] t (0, 0)))) (h : (((w.setCell ⟨g, 0, none⟩ a).setCell ⟨g, 1, none⟩ b).setCell ⟨g, 2, none⟩ c).heap[g]? = some (.cells #[a, b, c] t (0, 0)) → W.heap[g]? = some (.cells #[a, b, c] t (0, 0)) := by (intro h; (with_reducible repeat first|apply kN|apply kD|apply kA); exact h)) : W.heap[g]? = some (.cells #[a, b, c] t (0, 0)) := h (blk_put (cs := #[a, b, z]) (blk_put (cs := #[a, y, z]) (blk_put H.out 0 a rfl) 1 b rfl) 2 c rfl)
theorem kP4 {x y z u a b c d : Value} (H : Aside0 (w.heap[g]? = some (.cells #[x, y, z, u] t (0, 0)))) (h : ((((w.setCell ⟨g, 0, none⟩ a).setCell ⟨g, 1, none⟩ b).setCell ⟨g, 2, none⟩ c).setCell ⟨g, 3, none⟩ d).heap[g]? = some (.cells #[a, b, c, d] t (0, 0)) → W.heap[g]? = some (.cells #[a, b, c, d] t (0, 0)) := by (intro h; (with_reducible repeat first|apply kN|apply kD|apply kA); exact h)) : W.heap[g]? = some (.cells #[a, b, c, d] t (0, 0)) := h (blk_put (cs := #[a, b, c, u]) (blk_put (cs := #[a, b, z, u]) (blk_put (cs := #[a, y, z, u]) (blk_put H.out 0 a rfl) 1 b rfl) 2 c rfl) 3 d rfl)
variable {α : Type} {d : Kd α} {e base : Nat} {ok : Nat → Prop} {v : Value} {xs : List α} {cs : Array Value} {p q r s : Value}
theorem rF2 (H : Aside0 (d.R e w base ok v xs)) (K : Aside0 (w.heap[g]? = some (.cells cs t (0, 0)))) (ht : ∀ q, q ∈ e :: d.E → q ≠ t := by decide) (h : d.R e ((w.setCell ⟨g, 0, none⟩ p).setCell ⟨g, 1, none⟩ q) base ok v xs → d.R e W base ok v xs := by (intro h; (with_reducible repeat first|apply rA|apply rN|apply rD); exact h)) : d.R e W base ok v xs :=
  h (Kd.R_mono (Kd.R_far (p := ⟨g, 1, none⟩) (Kd.R_far (p := ⟨g, 0, none⟩) (Kd.R_types H.out K.out ht) (fun _ hk => hk.2) p) (fun _ hk => hk.2) q) (fun _ hk => hk.1))
theorem rF3 (H : Aside0 (d.R e w base ok v xs)) (K : Aside0 (w.heap[g]? = some (.cells cs t (0, 0)))) (ht : ∀ q, q ∈ e :: d.E → q ≠ t := by decide) (h : d.R e (((w.setCell ⟨g, 0, none⟩ p).setCell ⟨g, 1, none⟩ q).setCell ⟨g, 2, none⟩ r) base ok v xs → d.R e W base ok v xs := by (intro h; (with_reducible repeat first|apply rA|apply rN|apply rD); exact h)) : d.R e W base ok v xs :=
  h (Kd.R_mono (Kd.R_far (p := ⟨g, 2, none⟩) (Kd.R_far (p := ⟨g, 1, none⟩) (Kd.R_far (p := ⟨g, 0, none⟩) (Kd.R_types H.out K.out ht) (fun _ hk => hk.2) p) (fun _ hk => hk.2) q) (fun _ hk => hk.2) r) (fun _ hk => hk.1))
theorem rF4 (H : Aside0 (d.R e w base ok v xs)) (K : Aside0 (w.heap[g]? = some (.cells cs t (0, 0)))) (ht : ∀ q, q ∈ e :: d.E → q ≠ t := by decide) (h : d.R e ((((w.setCell ⟨g, 0, none⟩ p).setCell ⟨g, 1, none⟩ q).setCell ⟨g, 2, none⟩ r).setCell ⟨g, 3, none⟩ s) base ok v xs → d.R e W base ok v xs := by (intro h; (with_reducible repeat first|apply rA|apply rN|apply rD); exact h)) : d.R e W base ok v xs :=
  h (Kd.R_mono (Kd.R_far (p := ⟨g, 3, none⟩) (Kd.R_far (p := ⟨g, 2, none⟩) (Kd.R_far (p := ⟨g, 1, none⟩) (Kd.R_far (p := ⟨g, 0, none⟩) (Kd.R_types H.out K.out ht) (fun _ hk => hk.2) p) (fun _ hk => hk.2) q) (fun _ hk => hk.2) r) (fun _ hk => hk.2) s) (fun _ hk => hk.1))
end
theorem lI {α : Type} {c : Prop} [Decidable c] {a a' b b' : Option α} (h : LeO a a') (k : LeO b b') : LeO (if c then a else b) (if c then a' else b') := LeO.ite h k
theorem lB {α β : Type} {a a' : Option α} {f f' : α → Option β} (h : LeO a a') (k : ∀ x, LeO (f x) (f' x)) : LeO (a.bind f) (a'.bind f') := LeO.bind h k
theorem lR {α : Type} (a : Option α) : LeO a a := LeO.refl a
theorem lN {α : Type} (b : Option α) : LeO none b := LeO.none b
end Go.Proofs.YtbbblnmngjhadaaW.PrintWords
