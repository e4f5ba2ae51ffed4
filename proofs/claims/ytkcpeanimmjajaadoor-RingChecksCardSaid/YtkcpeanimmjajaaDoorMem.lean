import Derived.Test.YtkcpeanimmjajaaDoorClu
import Derived.Deep.MidRow
import Derived.Lib.ConvBytes
namespace Go.Proofs.YtkcpeanimmjajaaDoor.Ring
open Go.RowKit Go.Proofs.YtkcpeanimmjajaaDoorW.PrintWords Go.Proofs.YtkcpeanimmjajaaDoorW.PrintLast Go.Proofs.YtkcpeanimmjajaaDoorW.PrintMore
section
variable {P : Program} {ops : Array Oper} {rest : List Oper} {o : Oper} {a : Act} {Q : Exit → Act → World → Prop} {W : World}

/-- An operation that makes a block of its own: the new world is a letter. -/
theorem new_event (hgd : o.guard = none) {N : Tmp} (_hd : o.dst = some N) (cs : Array Value) (t : TypeId)
    (hrun : (execOp a.eval o).run P W = .ok (.value (.pointer (some ⟨W.heap.size, 0, none⟩))) (W.alloc (.cells cs t (0, 0))))
    (h : ∀ g w1, Aside0 (W.heap.size ≤ g) → Aside0 (w1.heap[g]? = some (.cells cs t (0, 0))) → Aside0 (Below W.heap.size W w1) → wpList P ops Q rest (a.put o.dst (.pointer (some ⟨g, 0, none⟩))) w1) : wpList P ops Q (o :: rest) a W :=
  Kd.event_run hgd hrun (h _ _ ⟨Nat.le_refl _⟩ ⟨blk_new W _⟩ ⟨below_alloc (Below.refl _ _) _⟩)

/-- Likewise of a slice's literal. -/
theorem row_event (hgd : o.guard = none) {N : Tmp} (_hd : o.dst = some N) (n : Nat) (cs : Array Value) (t : TypeId)
    (hrun : (execOp a.eval o).run P W = .ok (.value (.slice (some ⟨W.heap.size, 0, none⟩) n n)) (W.alloc (.cells cs t (0, 0))))
    (h : ∀ g w1, Aside0 (W.heap.size ≤ g) → Aside0 (w1.heap[g]? = some (.cells cs t (0, 0))) → Aside0 (Below W.heap.size W w1) → wpList P ops Q rest (a.put o.dst (.slice (some ⟨g, 0, none⟩) n n)) w1) : wpList P ops Q (o :: rest) a W :=
  Kd.event_run hgd hrun (h _ _ ⟨Nat.le_refl _⟩ ⟨blk_new W _⟩ ⟨below_alloc (Below.refl _ _) _⟩)

theorem setRow_grown (w : World) (g : Nat) (cs : Array Value) : w.grownBy (w.setRow g cs) (some g) := by
  refine ⟨rfl, rfl, rfl, by simp [World.setRow], fun i hi hne => ?_⟩
  have hne' : i ≠ g := fun e => hne (by rw [e])
  simp [World.setRow, Array.getElem?_modify, Ne.symm hne']

/-- A whole variable written: the new world is a letter. -/
theorem store_row_event (hgd : o.guard = none) (ty : TypeId) (x y : Operand) (ho : o.op = .store ty x y)
    (g : Nat) (cells : Array Value) (hx : a.eval x = .pointer (some ⟨g, 0, none⟩)) (hy : a.eval y = .agg cells)
    (t : TypeId) (old : Array Value) (hg : W.heap[g]? = some (.cells old t (0, 0))) (hi : (P.info? ty).map (·.size) = some cells.size)
    (hold : old.size = cells.size) (h1 : cells.all (·.oneCell') = true)
    (h : ∀ w1, Aside0 (w1.heap[g]? = some (.cells cells t (0, 0))) → Aside0 (W.grownBy w1 (some g)) → wpList P ops Q rest (a.put o.dst undef) w1) : wpList P ops Q (o :: rest) a W :=
  wpList_store_row hgd ty x y ho g cells hx hy t old hg hi hold h1 (h _ ⟨setRow_heap W g old cells t _ hg⟩ ⟨setRow_grown W g cells⟩)

theorem bytes_cell (w : World) (e : TypeId) (s : ByteArray) (j : Nat) (hj : j < s.size) : (Lib.bytesWorld w e s).cell? ⟨w.heap.size, j, none⟩ = some (.int .u8 (bt s j)) := by
  rw [Lib.bytesWorld_cell w e s j hj, ← bt_at s (j : Int) (by simpa using hj)]
  simp only [Int.toNat_natCast]
  congr 2
  have : s.data.toList.getD j 0 = s[j] := by
    rw [List.getD_eq_getElem?_getD, List.getElem?_eq_getElem (by simpa using hj)]
    rfl
  rw [this]
/-- '[]byte(s)': the new world is a letter. -/
theorem bytes_event (hgd : o.guard = none) (src dst e : TypeId) (x : Operand) (s : ByteArray) (ho : o.op = .convert src dst x) (hx : a.eval x = .string s)
    (hs : P.underlying src = some .string) (hd : P.underlying dst = some (.slice e)) (he : P.underlying e = some (.int .u8))
    (h : ∀ g cap w1, Aside0 (W.heap.size ≤ g) → (∀ j : Nat, j < s.size → w1.cell? ⟨g, j, none⟩ = some (.int .u8 (bt s j))) → Aside0 (Below W.heap.size W w1) → wpList P ops Q rest (a.put o.dst (.slice (some ⟨g, 0, none⟩) s.size cap)) w1) : wpList P ops Q (o :: rest) a W := by
  refine Kd.event_run hgd (v := .slice (some ⟨W.heap.size, 0, none⟩) s.size (grownCap W s.size 0 e)) (w1 := Lib.bytesWorld W e s) ?_ (h _ _ _ ⟨Nat.le_refl _⟩ (fun j hj => bytes_cell W e s j hj) ⟨⟨rfl, rfl, rfl, ?_, fun i hi => Lib.bytesWorld_at_old W e s i hi⟩⟩)
  · have := Lib.run_convert_string_bytes (P := P) W src dst e s hs hd he
    unfold execOp
    simp only [ho, hx]
    rw [Sem.run_bind, this]
    rfl
  · rw [Lib.bytesWorld_size]; omega

/-- A whole variable is read: the run's equation. -/
theorem exec_load_row (ty : TypeId) (x : Operand) (ho : o.op = .load ty x) (g : Nat) (hx : a.eval x = .pointer (some ⟨g, 0, none⟩)) (cs : Array Value) (t : TypeId) (hg : W.heap[g]? = some (.cells cs t (0, 0)))
    (d : TypeDesc) (hu : P.underlying ty = some d) (hd : (match d with | .struct _ | .array _ _ => true | _ => false) = true) (hi : (P.info? ty).map (·.size) = some cs.size) :
    (execOp a.eval o).run P W = .ok (.value (.agg cs)) W := by
  unfold execOp
  simp only [ho, hx, Instr.loadAt, Instr.sureAddr, Sem.run_bind, Sem.run_pure, Result.andThen_ok, run_loadVar_row W g t ty cs (0, 0) d hg hu hd hi]
theorem madeCells_one (z : Value) (n : Nat) : madeCells #[z] n = Array.replicate n z := by
  unfold madeCells
  apply Array.ext
  · simp
  · intro i h1 h2
    simp [Nat.mod_one]
/-- 'make([]T, n)' of one-cell elements: the new world is a letter, the block known whole. -/
theorem make_event (hgd : o.guard = none) (t e : TypeId) (x y : Operand) (ho : o.op = .makeSlice t x y) (n : Nat) (hx : a.eval x = .int .i64 n) (hy : a.eval y = .int .i64 n)
    (ht : P.underlying t = some (.slice e)) (z : Value) (bytes : Nat) (hinfo : (P.info? e).map (fun i => (i.zero, i.size, i.bytes)) = some (some z, 1, bytes)) (hz1 : z.cells = #[z]) (hb : bytes * n ≤ 281474976710656) (h63 : n ≤ 9223372036854775807)
    (h : ∀ g w1, Aside0 (W.heap.size ≤ g) → Aside0 (w1.heap[g]? = some (.cells (Array.replicate n z) e (0, 0))) → Aside0 (Below W.heap.size W w1) → wpList P ops Q rest (a.put o.dst (.slice (some ⟨g, 0, none⟩) n n)) w1) : wpList P ops Q (o :: rest) a W := by
  refine Kd.event_run hgd (v := .slice (some ⟨W.heap.size, 0, none⟩) n n) (w1 := W.alloc (.cells (Array.replicate n z) e)) ?_ (h _ _ ⟨Nat.le_refl _⟩ ⟨blk_new W _⟩ ⟨below_alloc (Below.refl _ _) _⟩)
  have := run_make_row' (P := P) t e z bytes ht hinfo hz1 .i64 .i64 n hb h63 W
  rw [madeCells_one] at this
  unfold execOp
  simp only [ho, hx, hy]
  rw [Sem.run_bind, this]
  rfl
/-- A cell of a block that is known whole is written: the new world is a letter. Behind 'gate_store': the run's equation by 'go_simp'. -/
theorem store_cell_event (hgd : o.guard = none) (t : TypeId) (p : Tmp) (x : Operand) (_ho : o.op = .store t (.tmp p) x) (hN : o.dst = none) (g i : Nat) (u : Value) (ty : TypeId) (cs : Array Value) (hb : W.heap[g]? = some (.cells cs ty (0, 0)))
    (hrun : (execOp a.eval o).run P W = .ok .skip (W.setCell ⟨g, i, none⟩ u))
    (h : ∀ w1, Aside0 (w1.heap[g]? = some (.cells (cs.setIfInBounds i u) ty (0, 0))) → Aside0 (W.grownBy w1 (some g)) → wpList P ops Q rest a w1) : wpList P ops Q (o :: rest) a W := by
  refine store_event hgd (t := t) (p := p) (v := x) _ho hN hrun (fun w' e => ?_)
  subst e
  refine h _ ⟨blk_set hb i u⟩ ⟨⟨rfl, rfl, rfl, by simp [World.setCell], fun j hj hne => Below.heap_setCell W ⟨g, i, none⟩ u j (fun e => hne (by rw [e]))⟩⟩
end
/-- A block of the call's own, or none, has been written. -/
theorem below_row {w W W1 : World} {g : Nat} (h : Below w.heap.size w W) (hg : w.heap.size ≤ g) (k : W.grownBy W1 (some g)) : Below w.heap.size w W1 :=
  h.grown k h.size (fun _ e => by cases e; exact hg)
end Go.Proofs.YtkcpeanimmjajaaDoor.Ring
