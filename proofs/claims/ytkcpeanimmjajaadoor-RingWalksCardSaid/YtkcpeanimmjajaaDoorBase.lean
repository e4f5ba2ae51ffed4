import Derived.Test.YtkcpeanimmjajaaDoorPRingWalksx0
import Derived.Deep.MidRow
import Derived.Lib.ConvBytes
namespace Go.Proofs.YtkcpeanimmjajaaDoor.Ring
open Go.RowKit Go.Proofs.YtkcpeanimmjajaaDoorW.PrintWords Go.Proofs.YtkcpeanimmjajaaDoorW.PrintLast Go.Proofs.YtkcpeanimmjajaaDoorW.PrintMore Go.Proofs.YtkcpeanimmjajaaDoor.PRingWalks
set_option linter.unusedVariables false

/-- A cluster's definition: its name, its 21 settings, its nodes. -/
structure Clu where
  store : ByteArray
  f1 : Int
  f2 : Int
  f3 : Int
  f4 : Int
  f5 : Int
  f6 : Int
  f7 : Int
  f8 : Int
  f9 : Int
  f10 : Int
  f11 : Int
  f12 : Int
  f13 : Int
  f14 : Int
  f15 : Int
  f16 : Int
  f17 : Int
  f18 : Int
  f19 : Int
  f20 : Int
  f21 : Int
  nodes : List S56

abbrev kN := k56
abbrev ND := S56

/-- The cells of a definition's value: A: where its nodes lie. -/
def Clu.cells (c : Clu) (A : Option Addr) (cap : Nat) : Array Value :=
  #[.string c.store, .int .i64 c.f1, .int .i64 c.f2, .int .i64 c.f3, .int .i64 c.f4, .int .i64 c.f5, .int .i64 c.f6, .int .i64 c.f7, .int .i64 c.f8, .int .i64 c.f9, .int .i64 c.f10, .int .i64 c.f11, .int .i64 c.f12, .int .i64 c.f13, .int .i64 c.f14, .int .i64 c.f15, .int .i64 c.f16, .int .i64 c.f17, .int .i64 c.f18, .int .i64 c.f19, .int .i64 c.f20, .int .i64 c.f21, .slice A c.nodes.length cap]
theorem Clu.cells_size (c : Clu) (A : Option Addr) (cap : Nat) : (c.cells A cap).size = 23 := rfl
theorem Clu.cells_one (c : Clu) (A : Option Addr) (cap : Nat) : ∀ v ∈ (c.cells A cap).toList, v.oneCell' = true := by
  unfold Clu.cells
  simp [Value.oneCell']

/-- The settings, in their order. -/
def Clu.vals (c : Clu) : List Int := [c.f1, c.f2, c.f3, c.f4, c.f5, c.f6, c.f7, c.f8, c.f9, c.f10, c.f11, c.f12, c.f13, c.f14, c.f15, c.f16, c.f17, c.f18, c.f19, c.f20, c.f21]

/-- A definition's value lies in block g. -/
def CluAt (w : World) (g : Nat) (c : Clu) (A : Option Addr) (cap : Nat) : Prop := w.heap[g]? = some (.cells (c.cells A cap) 24 (0, 0))

theorem infoClu : (Tryd.prog.info? 24).map (·.size) = some 23 := by kernel_rfl
end Go.Proofs.YtkcpeanimmjajaaDoor.Ring
namespace Go.Proofs.YtkcpeanimmjajaaDoor.Ring
open Go.RowKit Go.Proofs.YtkcpeanimmjajaaDoorW.PrintWords Go.Proofs.YtkcpeanimmjajaaDoorW.PrintLast Go.Proofs.YtkcpeanimmjajaaDoorW.PrintMore
section
variable {P : Program} {ops : Array Oper} {rest : List Oper} {o : Oper} {a : Act} {Q : Exit → Act → World → Prop} {W : World}

/-- An operation that makes a block of its own: the new world is a letter. -/
theorem new_event (hgd : o.guard = none) {N : Tmp} (_hd : o.dst = some N) (cs : Array Value) (t : TypeId)
    (hrun : (execOp a.eval o).run P W = .ok (.value (.pointer (some ⟨W.heap.size, 0, none⟩))) (W.alloc (.cells cs t (0, 0))))
    (h : ∀ g w1, Aside0 (W.heap.size ≤ g) → Aside0 (w1.heap[g]? = some (.cells cs t (0, 0))) → Aside0 (Below W.heap.size W w1) → wpList P ops Q rest (a.put o.dst (.pointer (some ⟨g, 0, none⟩))) w1) : wpList P ops Q (o :: rest) a W :=
  Kd.event_run hgd hrun (h _ _ ⟨Nat.le_refl _⟩ ⟨blk_new W _⟩ ⟨below_alloc (Below.refl _ _) _⟩)

/-- Likewise of a slice's literal. -/
theorem row_event (hgd : o.guard = none) {N : Tmp} (_hd : o.dst = some N) (n : Nat) (cs : Array Value) (t : TypeId)
    (hrun : (execOp a.eval o).run P W = .ok (.value (.slice (some ⟨W.heap.size, 0, none⟩) n n)) (W.alloc (.cells cs t (0, 0))))
    (h : ∀ g w1, Aside0 (W.heap.size ≤ g) → Aside0 (w1.heap[g]? = some (.cells cs t (0, 0))) → Aside0 (Below W.heap.size W w1) → wpList P ops Q rest (a.put o.dst (.slice (some ⟨g, 0, none⟩) n n)) w1) : wpList P ops Q (o :: rest) a W :=
  Kd.event_run hgd hrun (h _ _ ⟨Nat.le_refl _⟩ ⟨blk_new W _⟩ ⟨below_alloc (Below.refl _ _) _⟩)

theorem setRow_grown (w : World) (g : Nat) (cs : Array Value) : w.grownBy (w.setRow g cs) (some g) := by
  refine ⟨rfl, rfl, rfl, by simp [World.setRow], fun i hi hne => ?_⟩
  have hne' : i ≠ g := fun e => hne (by rw [e])
  simp [World.setRow, Array.getElem?_modify, Ne.symm hne']

/-- A whole variable written: the new world is a letter. -/
theorem store_row_event (hgd : o.guard = none) (ty : TypeId) (x y : Operand) (ho : o.op = .store ty x y)
    (g : Nat) (cells : Array Value) (hx : a.eval x = .pointer (some ⟨g, 0, none⟩)) (hy : a.eval y = .agg cells)
    (t : TypeId) (old : Array Value) (hg : W.heap[g]? = some (.cells old t (0, 0))) (hi : (P.info? ty).map (·.size) = some cells.size)
    (hold : old.size = cells.size) (h1 : cells.all (·.oneCell') = true)
    (h : ∀ w1, Aside0 (w1.heap[g]? = some (.cells cells t (0, 0))) → Aside0 (W.grownBy w1 (some g)) → wpList P ops Q rest (a.put o.dst undef) w1) : wpList P ops Q (o :: rest) a W :=
  wpList_store_row hgd ty x y ho g cells hx hy t old hg hi hold h1 (h _ ⟨setRow_heap W g old cells t _ hg⟩ ⟨setRow_grown W g cells⟩)

theorem bytes_cell (w : World) (e : TypeId) (s : ByteArray) (j : Nat) (hj : j < s.size) : (Lib.bytesWorld w e s).cell? ⟨w.heap.size, j, none⟩ = some (.int .u8 (bt s j)) := by
  rw [Lib.bytesWorld_cell w e s j hj, ← bt_at s (j : Int) (by simpa using hj)]
  simp only [Int.toNat_natCast]
  congr 2
  have : s.data.toList.getD j 0 = s[j] := by
    rw [List.getD_eq_getElem?_getD, List.getElem?_eq_getElem (by simpa using hj)]
    rfl
  rw [this]
/-- '[]byte(s)': the new world is a letter. -/
theorem bytes_event (hgd : o.guard = none) (src dst e : TypeId) (x : Operand) (s : ByteArray) (ho : o.op = .convert src dst x) (hx : a.eval x = .string s)
    (hs : P.underlying src = some .string) (hd : P.underlying dst = some (.slice e)) (he : P.underlying e = some (.int .u8))
    (h : ∀ g cap w1, Aside0 (W.heap.size ≤ g) → (∀ j : Nat, j < s.size → w1.cell? ⟨g, j, none⟩ = some (.int .u8 (bt s j))) → Aside0 (Below W.heap.size W w1) → wpList P ops Q rest (a.put o.dst (.slice (some ⟨g, 0, none⟩) s.size cap)) w1) : wpList P ops Q (o :: rest) a W := by
  refine Kd.event_run hgd (v := .slice (some ⟨W.heap.size, 0, none⟩) s.size (grownCap W s.size 0 e)) (w1 := Lib.bytesWorld W e s) ?_ (h _ _ _ ⟨Nat.le_refl _⟩ (fun j hj => bytes_cell W e s j hj) ⟨⟨rfl, rfl, rfl, ?_, fun i hi => Lib.bytesWorld_at_old W e s i hi⟩⟩)
  · have := Lib.run_convert_string_bytes (P := P) W src dst e s hs hd he
    unfold execOp
    simp only [ho, hx]
    rw [Sem.run_bind, this]
    rfl
  · rw [Lib.bytesWorld_size]; omega

/-- A whole variable is read: the run's equation. -/
theorem exec_load_row (ty : TypeId) (x : Operand) (ho : o.op = .load ty x) (g : Nat) (hx : a.eval x = .pointer (some ⟨g, 0, none⟩)) (cs : Array Value) (t : TypeId) (hg : W.heap[g]? = some (.cells cs t (0, 0)))
    (d : TypeDesc) (hu : P.underlying ty = some d) (hd : (match d with | .struct _ | .array _ _ => true | _ => false) = true) (hi : (P.info? ty).map (·.size) = some cs.size) :
    (execOp a.eval o).run P W = .ok (.value (.agg cs)) W := by
  unfold execOp
  simp only [ho, hx, Instr.loadAt, Instr.sureAddr, Sem.run_bind, Sem.run_pure, Result.andThen_ok, run_loadVar_row W g t ty cs (0, 0) d hg hu hd hi]
theorem madeCells_one (z : Value) (n : Nat) : madeCells #[z] n = Array.replicate n z := by
  unfold madeCells
  apply Array.ext
  · simp
  · intro i h1 h2
    simp [Nat.mod_one]
/-- 'make([]T, n)' of one-cell elements: the new world is a letter, the block known whole. -/
theorem make_event (hgd : o.guard = none) (t e : TypeId) (x y : Operand) (ho : o.op = .makeSlice t x y) (n : Nat) (hx : a.eval x = .int .i64 n) (hy : a.eval y = .int .i64 n)
    (ht : P.underlying t = some (.slice e)) (z : Value) (bytes : Nat) (hinfo : (P.info? e).map (fun i => (i.zero, i.size, i.bytes)) = some (some z, 1, bytes)) (hz1 : z.cells = #[z]) (hb : bytes * n ≤ 281474976710656) (h63 : n ≤ 9223372036854775807)
    (h : ∀ g w1, Aside0 (W.heap.size ≤ g) → Aside0 (w1.heap[g]? = some (.cells (Array.replicate n z) e (0, 0))) → Aside0 (Below W.heap.size W w1) → wpList P ops Q rest (a.put o.dst (.slice (some ⟨g, 0, none⟩) n n)) w1) : wpList P ops Q (o :: rest) a W := by
  refine Kd.event_run hgd (v := .slice (some ⟨W.heap.size, 0, none⟩) n n) (w1 := W.alloc (.cells (Array.replicate n z) e)) ?_ (h _ _ ⟨Nat.le_refl _⟩ ⟨blk_new W _⟩ ⟨below_alloc (Below.refl _ _) _⟩)
  have := run_make_row' (P := P) t e z bytes ht hinfo hz1 .i64 .i64 n hb h63 W
  rw [madeCells_one] at this
  unfold execOp
  simp only [ho, hx, hy]
  rw [Sem.run_bind, this]
  rfl
/-- A cell of a block that is known whole is written: the new world is a letter. Behind 'gate_store': the run's equation by 'go_simp'. -/
theorem store_cell_event (hgd : o.guard = none) (t : TypeId) (p : Tmp) (x : Operand) (_ho : o.op = .store t (.tmp p) x) (hN : o.dst = none) (g i : Nat) (u : Value) (ty : TypeId) (cs : Array Value) (hb : W.heap[g]? = some (.cells cs ty (0, 0)))
    (hrun : (execOp a.eval o).run P W = .ok .skip (W.setCell ⟨g, i, none⟩ u))
    (h : ∀ w1, Aside0 (w1.heap[g]? = some (.cells (cs.setIfInBounds i u) ty (0, 0))) → Aside0 (W.grownBy w1 (some g)) → wpList P ops Q rest a w1) : wpList P ops Q (o :: rest) a W := by
  refine store_event hgd (t := t) (p := p) (v := x) _ho hN hrun (fun w' e => ?_)
  subst e
  refine h _ ⟨blk_set hb i u⟩ ⟨⟨rfl, rfl, rfl, by simp [World.setCell], fun j hj hne => Below.heap_setCell W ⟨g, i, none⟩ u j (fun e => hne (by rw [e]))⟩⟩
end
/-- A block of the call's own, or none, has been written. -/
theorem below_row {w W W1 : World} {g : Nat} (h : Below w.heap.size w W) (hg : w.heap.size ≤ g) (k : W.grownBy W1 (some g)) : Below w.heap.size w W1 :=
  h.grown k h.size (fun _ e => by cases e; exact hg)
end Go.Proofs.YtkcpeanimmjajaaDoor.Ring
namespace Go.Proofs.YtkcpeanimmjajaaDoor.Ring
open Go.RowKit Go.Proofs.YtkcpeanimmjajaaDoorW.PrintWords Go.Proofs.YtkcpeanimmjajaaDoorW.PrintLast Go.Proofs.YtkcpeanimmjajaaDoorW.PrintMore Go.Proofs.YtkcpeanimmjajaaDoor.PRingWalks
set_option linter.unusedVariables false

set_option maxHeartbeats 2000000 in
set_option maxRecDepth 100000 in
theorem values_calls (c : Clu) (A : Option Addr) (cap : Nat) (w : World) :
    Calls Tryd.prog 58 #[.agg (c.cells A cap)] w fun e w' => e = .returned (.agg (c.vals.map (Value.int .i64)).toArray) ∧ Below w.heap.size w w' := by
  have HB := Aside0.mk (Below.refl w.heap.size w)
  go_enter Tryd.func58, Tryd.ntmps58
  go_wp2_with (first | ((with_reducible refine gate_dst (N := 1) rfl ?_); refine new_event ?hg (N := 1) ?hd (c.cells A cap) 24 ?hr ?_; (case hd => rfl); (case hg => rfl); (case hr => first | (go_simp; done) | (go_simp; rfl)); intro gb w1 GE HX HB1) | ((with_reducible refine gate_dst (N := 2) rfl ?_); refine new_event ?hg (N := 2) ?hd (Array.replicate 21 (.int .i64 0)) 88 ?hr ?_; (case hd => rfl); (case hg => rfl); (case hr => first | (go_simp; done) | (go_simp; rfl)); intro gv w2 GE2 HX2 HB2; have HX3 := Aside0.mk (blk_below HX.out HB2.out); have hc1 : w2.cell? ⟨gb, 1, none⟩ = some (.int .i64 c.f1) := (blk_cell HX3.out 1).trans rfl; have hc2 : w2.cell? ⟨gb, 2, none⟩ = some (.int .i64 c.f2) := (blk_cell HX3.out 2).trans rfl; have hc3 : w2.cell? ⟨gb, 3, none⟩ = some (.int .i64 c.f3) := (blk_cell HX3.out 3).trans rfl; have hc4 : w2.cell? ⟨gb, 4, none⟩ = some (.int .i64 c.f4) := (blk_cell HX3.out 4).trans rfl; have hc5 : w2.cell? ⟨gb, 5, none⟩ = some (.int .i64 c.f5) := (blk_cell HX3.out 5).trans rfl; have hc6 : w2.cell? ⟨gb, 6, none⟩ = some (.int .i64 c.f6) := (blk_cell HX3.out 6).trans rfl; have hc7 : w2.cell? ⟨gb, 7, none⟩ = some (.int .i64 c.f7) := (blk_cell HX3.out 7).trans rfl; have hc8 : w2.cell? ⟨gb, 8, none⟩ = some (.int .i64 c.f8) := (blk_cell HX3.out 8).trans rfl; have hc9 : w2.cell? ⟨gb, 9, none⟩ = some (.int .i64 c.f9) := (blk_cell HX3.out 9).trans rfl; have hc10 : w2.cell? ⟨gb, 10, none⟩ = some (.int .i64 c.f10) := (blk_cell HX3.out 10).trans rfl; have hc11 : w2.cell? ⟨gb, 11, none⟩ = some (.int .i64 c.f11) := (blk_cell HX3.out 11).trans rfl; have hc12 : w2.cell? ⟨gb, 12, none⟩ = some (.int .i64 c.f12) := (blk_cell HX3.out 12).trans rfl; have hc13 : w2.cell? ⟨gb, 13, none⟩ = some (.int .i64 c.f13) := (blk_cell HX3.out 13).trans rfl; have hc14 : w2.cell? ⟨gb, 14, none⟩ = some (.int .i64 c.f14) := (blk_cell HX3.out 14).trans rfl; have hc15 : w2.cell? ⟨gb, 15, none⟩ = some (.int .i64 c.f15) := (blk_cell HX3.out 15).trans rfl; have hc16 : w2.cell? ⟨gb, 16, none⟩ = some (.int .i64 c.f16) := (blk_cell HX3.out 16).trans rfl; have hc17 : w2.cell? ⟨gb, 17, none⟩ = some (.int .i64 c.f17) := (blk_cell HX3.out 17).trans rfl; have hc18 : w2.cell? ⟨gb, 18, none⟩ = some (.int .i64 c.f18) := (blk_cell HX3.out 18).trans rfl; have hc19 : w2.cell? ⟨gb, 19, none⟩ = some (.int .i64 c.f19) := (blk_cell HX3.out 19).trans rfl; have hc20 : w2.cell? ⟨gb, 20, none⟩ = some (.int .i64 c.f20) := (blk_cell HX3.out 20).trans rfl; have hc21 : w2.cell? ⟨gb, 21, none⟩ = some (.int .i64 c.f21) := (blk_cell HX3.out 21).trans rfl) | ((with_reducible refine gate_store (t := 88) (p := 2) (v := .tmp 45) rfl ?_); refine store_row_event rfl 88 (.tmp 2) (.tmp 45) rfl gv (c.vals.map (Value.int .i64)).toArray rfl rfl 88 _ HX2.out ?si rfl ?so ?_; (case si => kernel_rfl); (case so => (simp [Clu.vals, Value.oneCell'])); intro w3 HX4 HG4; clear hc1 hc2 hc3 hc4 hc5 hc6 hc7 hc8 hc9 hc10 hc11 hc12 hc13 hc14 hc15 hc16 hc17 hc18 hc19 hc20 hc21) | fail)
  refine bodyPost_ret (results_cell_row rfl _ _ gv 88 _ (0, 0) _ rfl HX4.out Tryd.underlying88 rfl (by kernel_rfl)) rfl ⟨rfl, ?_⟩
  exact below_row (below_step HB1.out HB2.out) (Nat.le_trans HB1.out.size GE2.out) HG4.out
end Go.Proofs.YtkcpeanimmjajaaDoor.Ring
namespace Go.Proofs.YtkcpeanimmjajaaDoor.Ring
open Go.RowKit Go.Proofs.YtkcpeanimmjajaaDoorW.PrintWords Go.Proofs.YtkcpeanimmjajaaDoorW.PrintLast Go.Proofs.YtkcpeanimmjajaaDoorW.PrintMore Go.Proofs.YtkcpeanimmjajaaDoor.PRingWalks
set_option linter.unusedVariables false

/-- The sizes that a definition may have in memory. -/
def Clu.ok (c : Clu) : Prop := c.store.size ≤ 140737488351232 ∧ c.nodes.length ≤ 4398046511104 ∧ ∀ nd ∈ c.nodes, nd.f1.length ≤ 17592186044416

/-- Element k of a row of nodes. -/
theorem node_at {w : World} {A : Option Addr} {n : Nat} {l : List ND} (h : Kd.C kN w A n l) (k : Nat) (hk : k < n) : ∃ ad A1 c1 nd, A = some ad ∧ l[k]? = some nd ∧ w.cell? (ad.add (k * 2)) = some (.int .i64 nd.f0) ∧ w.cell? ⟨(ad.add (k * 2)).block, (ad.add (k * 2)).off + 1, none⟩ = some (.slice A1 nd.f1.length c1) ∧ nd.f1.length ≤ c1 ∧ (Kd.int .i64).C w A1 nd.f1.length nd.f1 := by
  have hl : l.length = n := h.1
  obtain ⟨ad, A1, c1, e, h0, h1, h2, h3⟩ := at_T56 h (k : Int) (by omega) (by omega)
  have hg : l[k]? = some (rd_T56 l (k : Int)) := by
    unfold rd_T56
    rw [Int.toNat_natCast, List.getD_eq_getElem?_getD, List.getElem?_eq_getElem (by omega)]
    rfl
  rw [Int.toNat_natCast] at h0 h1
  exact ⟨ad, A1, c1, _, e, hg, h0, h1, h2, h3⟩

/-- How many partitions the first nodes have. -/
def partsN (l : List ND) : Nat := (l.map fun nd => nd.f1.length).sum
theorem partsN_snoc (l : List ND) (k : Nat) (nd : ND) (h : l[k]? = some nd) : partsN (l.take (k + 1)) = partsN (l.take k) + nd.f1.length := by
  obtain ⟨hk, rfl⟩ := List.getElem?_eq_some_iff.1 h
  unfold partsN
  rw [List.take_succ_eq_append_getElem hk]
  simp only [List.map_append, List.sum_append, List.map_cons, List.map_nil, List.sum_cons, List.sum_nil, Nat.add_zero]
theorem partsN_le (l : List ND) (hl : ∀ nd ∈ l, nd.f1.length ≤ 17592186044416) : partsN l ≤ l.length * 17592186044416 := by
  unfold partsN
  induction l with
  | nil => simp
  | cons x r ih =>
    have h1 := ih (fun nd h => hl nd (List.mem_cons_of_mem _ h))
    have h2 := hl x List.mem_cons_self
    simp only [List.map_cons, List.sum_cons, List.length_cons]
    omega
theorem partsN_take (c : Clu) (hc : c.ok) (hn : c.nodes.length ≤ 1024) (k : Nat) : partsN (c.nodes.take k) ≤ 18014398509481984 := by
  have := partsN_le (c.nodes.take k) (fun nd h => hc.2.2 nd (List.mem_of_mem_take h))
  have h2 : (c.nodes.take k).length ≤ c.nodes.length := List.length_take_le' _ _
  omega

theorem ret_bool {a b : Bool} (h : a = b) : Ending.returned (.bool a) = .returned (.bool b) := by rw [h]
theorem ret_i64 {a b : Int} (h : a = b) : Ending.returned (.int .i64 a) = .returned (.int .i64 b) := by rw [h]

set_option maxHeartbeats 2000000 in
set_option maxRecDepth 100000 in
theorem parts_calls (c : Clu) (A : Option Addr) (cap : Nat) (w : World) (HR : Kd.C kN w A c.nodes.length c.nodes) (hok : c.ok) (hn : c.nodes.length ≤ 1024) :
    Calls Tryd.prog 39 #[.agg (c.cells A cap)] w fun e w' => e = .returned (.int .i64 (partsN c.nodes)) ∧ Below w.heap.size w w' := by
  have HR' := Aside0.mk HR
  clear HR
  go_enter Tryd.func39, Tryd.ntmps39
  go_wp2_with (first | ((with_reducible refine gate_dst (N := 1) rfl ?_); refine new_event ?hg (N := 1) ?hd (c.cells A cap) 24 ?hr ?_; (case hd => rfl); (case hg => rfl); (case hr => first | (go_simp; done) | (go_simp; rfl)); intro gb w1 GE HX HB))
  have hc22 : w1.cell? ⟨gb, 22, none⟩ = some (.slice A c.nodes.length cap) := (blk_cell HX.out 22).trans rfl
  go_loop [3, 4] (fun v i => ∃ k : Nat, k ≤ c.nodes.length ∧ i = .int .i64 k ∧ v = .int .i64 (partsN (c.nodes.take k))) (fun _ i => c.nodes.length - (intOf i).toNat)
  case atStart => exact ⟨0, Nat.zero_le _, rfl, rfl⟩
  case round =>
    obtain ⟨k, hk, rfl, rfl⟩ := hrel
    have hb := partsN_take c hok hn k
    by_cases hlt : k < c.nodes.length
    · obtain ⟨ad, A1, c1, nd, rfl, hnd, hz0, hz1, hl1, hC1⟩ := node_at (Kd.C_below HR'.out HB.out) k hlt
      have hb1 := partsN_take c hok hn (k + 1)
      have HS := Aside0.mk (partsN_snoc c.nodes k nd hnd)
      rw [HS.out] at hb1
      clear hnd
      go_wp2
      go_round
      case rel => exact ⟨k + 1, by omega, by go_num, by rw [HS.out]; go_num⟩
      case measure => simp [intOf]; omega
    · go_wp2
      go_ret
      exact ⟨ret_i64 (by rw [List.take_of_length_le (by omega)]), HB.out⟩
end Go.Proofs.YtkcpeanimmjajaaDoor.Ring
namespace Go.Proofs.YtkcpeanimmjajaaDoor.Ring
open Go.RowKit Go.Proofs.YtkcpeanimmjajaaDoorW.PrintWords Go.Proofs.YtkcpeanimmjajaaDoorW.PrintLast Go.Proofs.YtkcpeanimmjajaaDoorW.PrintMore Go.Proofs.YtkcpeanimmjajaaDoor.PRingWalks
set_option linter.unusedVariables false

/-- How often a number stands in a list; in the lists of nodes. -/
def cnt (p : Int) (l : List Int) : Nat := (l.filter fun x => x == p).length
def timesN (p : Int) (l : List ND) : Nat := (l.map fun nd => cnt p nd.f1).sum
theorem cnt_snoc (p : Int) (l : List Int) (j : Nat) (x : Int) (h : l[j]? = some x) : cnt p (l.take (j + 1)) = cnt p (l.take j) + if x = p then 1 else 0 := by
  obtain ⟨hk, rfl⟩ := List.getElem?_eq_some_iff.1 h
  unfold cnt
  rw [List.take_succ_eq_append_getElem hk, List.filter_append, List.length_append]
  by_cases e : l[j] = p <;> simp [e]
theorem cnt_le (p : Int) (l : List Int) : cnt p l ≤ l.length := List.length_filter_le _ _
theorem timesN_snoc (p : Int) (l : List ND) (k : Nat) (nd : ND) (h : l[k]? = some nd) : timesN p (l.take (k + 1)) = timesN p (l.take k) + cnt p nd.f1 := by
  obtain ⟨hk, rfl⟩ := List.getElem?_eq_some_iff.1 h
  unfold timesN
  rw [List.take_succ_eq_append_getElem hk]
  simp only [List.map_append, List.sum_append, List.map_cons, List.map_nil, List.sum_cons, List.sum_nil, Nat.add_zero]
theorem timesN_le (p : Int) (l : List ND) : timesN p l ≤ partsN l := by
  unfold timesN partsN
  induction l with
  | nil => simp
  | cons x r ih =>
    have := cnt_le p x.f1
    simp only [List.map_cons, List.sum_cons]
    omega
/-- Element k of a row of numbers. -/
theorem int_at {w : World} {A : Option Addr} {n : Nat} {l : List Int} (h : (Kd.int .i64).C w A n l) (k : Nat) (hk : k < n) : ∃ ad x, A = some ad ∧ l[k]? = some x ∧ w.cell? (ad.add k) = some (.int .i64 x) := by
  obtain ⟨ad, c, e, _, hK, hc⟩ := Kd.C_get h (0 : Int) (k : Int) (by omega) (by omega)
  have hl : l.length = n := h.1
  have hK' : c = [.int .i64 (l.getD k 0)] := hK
  subst hK'
  refine ⟨ad, _, e, ?_, by have hq := hc 0 _ rfl; rwa [Int.toNat_natCast, show (Kd.int .i64).sz = 1 from rfl, Nat.mul_one, Nat.add_zero] at hq⟩
  rw [List.getD_eq_getElem?_getD, List.getElem?_eq_getElem (by omega)]
  rfl

set_option maxHeartbeats 2000000 in
set_option maxRecDepth 100000 in
theorem times_calls (c : Clu) (A : Option Addr) (cap : Nat) (p : Int) (w : World) (HR : Kd.C kN w A c.nodes.length c.nodes) (hok : c.ok) (hn : c.nodes.length ≤ 1024) :
    Calls Tryd.prog 68 #[.agg (c.cells A cap), .int .i64 p] w fun e w' => e = .returned (.int .i64 (timesN p c.nodes)) ∧ Below w.heap.size w w' := by
  have HR' := Aside0.mk HR
  clear HR
  go_enter Tryd.func68, Tryd.ntmps68
  go_wp2_with (first | ((with_reducible refine gate_dst (N := 2) rfl ?_); refine new_event ?hg (N := 2) ?hd (c.cells A cap) 24 ?hr ?_; (case hd => rfl); (case hg => rfl); (case hr => first | (go_simp; done) | (go_simp; rfl)); intro gb w1 GE HX HB))
  have hc22 : w1.cell? ⟨gb, 22, none⟩ = some (.slice A c.nodes.length cap) := (blk_cell HX.out 22).trans rfl
  go_loop [5, 6] (fun v i => ∃ k : Nat, k ≤ c.nodes.length ∧ i = .int .i64 k ∧ v = .int .i64 (timesN p (c.nodes.take k))) (fun _ i => c.nodes.length - (intOf i).toNat)
  case atStart => exact ⟨0, Nat.zero_le _, rfl, rfl⟩
  case round =>
    obtain ⟨k, hk, rfl, rfl⟩ := hrel
    have hb := partsN_take c hok hn k
    by_cases hlt : k < c.nodes.length
    · obtain ⟨ad, A1, c1, nd, rfl, hnd, hz0, hz1, hl1, hC1⟩ := node_at (Kd.C_below HR'.out HB.out) k hlt
      have hb1 := partsN_take c hok hn (k + 1)
      have HS := Aside0.mk (timesN_snoc p c.nodes k nd hnd)
      have hb2 := timesN_le p (c.nodes.take (k + 1))
      rw [HS.out] at hb2
      have hnl := hok.2.2 nd (List.mem_of_getElem? hnd)
      have hb0 := timesN_le p (c.nodes.take k)
      clear hnd
      have HC1 := Aside0.mk hC1
      clear hC1
      go_wp2
      go_loop [5, 7] (fun v i => ∃ j : Nat, j ≤ nd.f1.length ∧ i = .int .i64 j ∧ v = .int .i64 ((timesN p (c.nodes.take k) : Nat) + (cnt p (nd.f1.take j) : Nat) : Int)) (fun _ i => nd.f1.length - (intOf i).toNat)
      case atStart => exact ⟨0, Nat.zero_le _, rfl, by simp [cnt]⟩
      case round =>
        obtain ⟨j, hj, rfl, rfl⟩ := hrel
        have hb3 := cnt_le p (nd.f1.take j)
        have hb4 : (nd.f1.take j).length ≤ j := List.length_take_le _ _
        by_cases hjt : j < nd.f1.length
        · obtain ⟨ad2, x, rfl, hx, hzx⟩ := int_at HC1.out j hjt
          have HT := Aside0.mk (cnt_snoc p nd.f1 j x hx)
          have hb5 := cnt_le p nd.f1
          clear hx
          by_cases hxp : x = p
          · have hxb : (x == p) = true := beq_iff_eq.2 hxp
            have HX1 := Aside0.mk hxp
            clear hxp
            go_wp2
            go_round
            case rel => exact ⟨j + 1, by omega, by go_num, by rw [HT.out, if_pos HX1.out]; go_num⟩
            case measure => simp [intOf]; omega
          · have hxb : (x == p) = false := beq_eq_false_iff_ne.2 hxp
            have HX1 := Aside0.mk hxp
            clear hxp
            go_wp2
            go_round
            case rel => exact ⟨j + 1, by omega, by go_num, by rw [HT.out, if_neg HX1.out]; go_num⟩
            case measure => simp [intOf]; omega
        · go_wp2
          go_round
          case rel => exact ⟨k + 1, by omega, by go_num, by rw [HS.out, show nd.f1.take j = nd.f1 from List.take_of_length_le (by omega)]; go_num⟩
          case measure => simp [intOf]; omega
    · go_wp2
      go_ret
      exact ⟨ret_i64 (by rw [List.take_of_length_le (by omega)]), HB.out⟩
end Go.Proofs.YtkcpeanimmjajaaDoor.Ring
namespace Go.Proofs.YtkcpeanimmjajaaDoor.Ring
open Go.RowKit Go.Proofs.YtkcpeanimmjajaaDoorW.PrintWords Go.Proofs.YtkcpeanimmjajaaDoorW.PrintLast Go.Proofs.YtkcpeanimmjajaaDoorW.PrintMore Go.Proofs.YtkcpeanimmjajaaDoor.PRingWalks
set_option linter.unusedVariables false

/-- Does a list rise? -/
def Rises (l : List Int) : Prop := ∀ j a b, l[j]? = some a → l[j + 1]? = some b → a < b
/-- Are the partitions dealt: 1 to 64, each of them once, each list rising? -/
def Dealt (l : List ND) : Prop := 1 ≤ partsN l ∧ partsN l ≤ 64 ∧ (∀ i : Nat, i < partsN l → timesN i l = 1) ∧ ∀ nd ∈ l, Rises nd.f1
noncomputable def dealtB (l : List ND) : Bool := @decide (Dealt l) (Classical.propDecidable _)
theorem dealtB_yes {l : List ND} (h : Dealt l) : dealtB l = true := by unfold dealtB; exact @decide_eq_true _ (Classical.propDecidable _) h
theorem dealtB_no {l : List ND} (h : ¬ Dealt l) : dealtB l = false := by unfold dealtB; exact @decide_eq_false _ (Classical.propDecidable _) h

theorem all_snoc {p : Nat → Prop} {k : Nat} (h : ∀ j, j < k → p j) (hk : p k) : ∀ j, j < k + 1 → p j := fun j hj => by
  rcases Nat.lt_succ_iff_lt_or_eq.1 hj with h1 | h1
  · exact h j h1
  · exact h1 ▸ hk
theorem add_pos (a : Addr) (n : Nat) (h : 0 < n) : a.add n = ⟨a.block, a.off + n, none⟩ := by
  unfold Addr.add
  rw [if_neg (by omega)]
theorem i64_1 (a : Nat) : ((a : Int) != 1) = !decide (a = 1) := by
  by_cases h : a = 1
  · subst h; rfl
  · have : ((a : Int) == 1) = false := beq_eq_false_iff_ne.2 (by omega)
    simp [bne, this, h]

set_option maxHeartbeats 4000000 in
set_option maxRecDepth 100000 in
theorem dealt_calls (c : Clu) (A : Option Addr) (cap : Nat) (w : World) (HR : Kd.C kN w A c.nodes.length c.nodes) (hok : c.ok) (hn : c.nodes.length ≤ 1024) :
    Calls Tryd.prog 38 #[.agg (c.cells A cap)] w fun e w' => e = .returned (.bool (dealtB c.nodes)) ∧ Below w.heap.size w w' := by
  have HR' := Aside0.mk HR
  clear HR
  have hP := partsN_take c hok hn c.nodes.length
  rw [List.take_of_length_le (Nat.le_refl _)] at hP
  go_enter Tryd.func38, Tryd.ntmps38
  go_wp2_with (first | ((with_reducible refine gate_dst (N := 1) rfl ?_); refine new_event ?hg (N := 1) ?hd (c.cells A cap) 24 ?hr ?_; (case hd => rfl); (case hg => rfl); (case hr => first | (go_simp; done) | (go_simp; rfl)); intro gb w1 GE HX HB) | ((with_reducible refine gate_dst (N := 8) rfl ?_); refine wpList_load_row rfl 24 (.tmp 1) rfl gb rfl 24 (c.cells A cap) (0, 0) _ HX.out Tryd.underlying24 rfl (by kernel_rfl) ?_))
  go_at_call 39
  refine (parts_calls c A cap w1 (Kd.C_below HR'.out HB.out) hok hn).mono ?_
  rintro e w2 ⟨rfl, hb2⟩
  have HB2 := Aside0.mk (below_step HB.out hb2)
  have HX2 := Aside0.mk (blk_below HX.out hb2)
  clear hb2
  by_cases hr : 1 ≤ partsN c.nodes ∧ partsN c.nodes ≤ 64
  · obtain ⟨hr1, hr2⟩ := hr
    have t1 : decide ((partsN c.nodes : Int) < 1) = false := by simp; omega
    have t2 : decide ((64 : Int) < (partsN c.nodes : Int)) = false := by simp; omega
    go_wp2_with fail
    go_loopw [4] (fun v wr => ∃ i : Nat, i ≤ partsN c.nodes ∧ v = .int .i64 i ∧ Aside0 (∀ j : Nat, j < i → timesN j c.nodes = 1) ∧ Aside0 (wr.heap[gb]? = some (.cells (c.cells A cap) 24 (0, 0))) ∧ Aside0 (Below w.heap.size w wr)) (fun v _ => partsN c.nodes - (intOf v).toNat)
    case atStart => exact ⟨0, Nat.zero_le _, rfl, ⟨fun j hj => by omega⟩, HX2, HB2⟩
    case round =>
      clear HX2 HB2
      obtain ⟨i, hi, rfl, HA, HX3, HB3⟩ := hrel
      by_cases hlt : i < partsN c.nodes
      · go_wp2_with (first | ((with_reducible refine gate_dst (N := 21) rfl ?_); refine wpList_load_row rfl 24 (.tmp 1) rfl gb rfl 24 (c.cells A cap) (0, 0) _ HX3.out Tryd.underlying24 rfl (by kernel_rfl) ?_))
        go_at_call 68
        refine (times_calls c A cap i wr (Kd.C_below HR'.out HB3.out) hok hn).mono ?_
        rintro e w4 ⟨rfl, hb4⟩
        have HB4 := Aside0.mk (below_step HB3.out hb4)
        have HX4 := Aside0.mk (blk_below HX3.out hb4)
        clear hb4
        by_cases ht : timesN i c.nodes = 1
        · have t3 : ((timesN i c.nodes : Int) != 1) = false := by rw [ht]; rfl
          have HT := Aside0.mk ht
          clear ht
          go_wp2_with fail
          go_roundw
          case rel => exact ⟨i + 1, by omega, by go_num, ⟨all_snoc HA.out HT.out⟩, HX4, HB4⟩
          case measure => simp [intOf]; omega
        · have t3 : ((timesN i c.nodes : Int) != 1) = true := by rw [i64_1]; simpa using ht
          have hf := Aside0.mk (dealtB_no (fun h : Dealt c.nodes => ht (h.2.2.1 i hlt)))
          clear ht
          go_wp2_with fail
          go_ret
          exact ⟨ret_bool hf.out.symm, HB4.out⟩
      · have HAll := Aside0.mk (fun (j : Nat) (hj : j < partsN c.nodes) => HA.out j (by omega))
        clear HA
        obtain ⟨wo, rfl⟩ : ∃ wo : World, wo = wr := ⟨_, rfl⟩
        have hc22 : wo.cell? ⟨gb, 22, none⟩ = some (.slice A c.nodes.length cap) := (blk_cell HX3.out 22).trans rfl
        go_wp2_with fail
        clear hc22
        go_loopw [5] (fun v wr => ∃ k : Nat, k ≤ c.nodes.length ∧ v = .int .i64 k ∧ Aside0 (∀ nd ∈ c.nodes.take k, Rises nd.f1) ∧ Aside0 (wr.heap[gb]? = some (.cells (c.cells A cap) 24 (0, 0))) ∧ Aside0 (Below w.heap.size w wr)) (fun v _ => c.nodes.length - (intOf v).toNat)
        case atStart => exact ⟨0, Nat.zero_le _, rfl, ⟨fun nd h => by simp at h⟩, HX3, HB3⟩
        case round =>
          clear HX3 HB3
          obtain ⟨k, hk, rfl, HK, HX3, HB3⟩ := hrel
          by_cases hkt : k < c.nodes.length
          · obtain ⟨ad, A1, c1, nd, rfl, hnd, hz0, hz1, hl1, hC1⟩ := node_at (Kd.C_below HR'.out HB3.out) k hkt
            have hc22 : wr.cell? ⟨gb, 22, none⟩ = some (.slice (some ad) c.nodes.length cap) := (blk_cell HX3.out 22).trans rfl
            have hnl := hok.2.2 nd (List.mem_of_getElem? hnd)
            have HM := Aside0.mk (List.mem_of_getElem? hnd)
            have HTk : Aside0 (c.nodes.take (k + 1) = c.nodes.take k ++ [nd]) := ⟨by
              obtain ⟨h1, h2⟩ := List.getElem?_eq_some_iff.1 hnd
              rw [List.take_succ_eq_append_getElem h1, h2]⟩
            clear hnd
            have HC1 := Aside0.mk hC1
            clear hC1
            go_wp2_with fail
            obtain ⟨wi, rfl⟩ : ∃ wi : World, wi = wr := ⟨_, rfl⟩
            clear hc22 hz0 hz1
            go_loopw [7] (fun v wr => ∃ m : Nat, (m + 1 ≤ nd.f1.length ∨ m = 0) ∧ v = .int .i64 ((m : Int) + 1) ∧ Aside0 (∀ i a b, i < m → nd.f1[i]? = some a → nd.f1[i + 1]? = some b → a < b) ∧ Aside0 (Below wi.heap.size wi wr)) (fun v _ => nd.f1.length - (intOf v).toNat)
            case atStart => exact ⟨0, .inr rfl, rfl, ⟨fun i a b h => by omega⟩, ⟨Below.refl _ _⟩⟩
            case round =>
              obtain ⟨m, hm, rfl, HJ, HQ⟩ := hrel
              by_cases hmt : m + 1 < nd.f1.length
              · obtain ⟨ad2, x, rfl, hx, hzx⟩ := int_at (Kd.C_below HC1.out HQ.out) (m + 1) hmt
                obtain ⟨ad3, y, he, hy, hzy⟩ := int_at (Kd.C_below HC1.out HQ.out) m (by omega)
                cases he
                have HE := Aside0.mk hx
                have HF := Aside0.mk hy
                clear hx hy
                rw [add_pos _ _ (by omega)] at hzx
                go_wp2_with fail
                have e1 : IntKind.i64.wrap ((m : Int) + 1 - 1) = (m : Int) := by rw [IntKind.wrap_i64]; omega
                have e2 : ((m : Int) + 1).toNat = m + 1 := by omega
                have b1 : (0 : Int) ≤ (m : Int) + 1 := by omega
                have b2 : (m : Int) + 1 < (nd.f1.length : Int) := by omega
                have b3 : (m : Int) < (nd.f1.length : Int) := by omega
                by_cases hxy : x ≤ y
                · have hf := Aside0.mk (dealtB_no (fun h : Dealt c.nodes => absurd (h.2.2.2 nd HM.out m y x HF.out HE.out) (by omega)))
                  go_quiet (fail)
                  clear e1 e2
                  go_wp2_with fail
                  go_ret
                  exact ⟨ret_bool hf.out.symm, pw_below_drewN (below_step HB3.out HQ.out) _⟩
                · have HXY := Aside0.mk hxy
                  go_quiet (fail)
                  clear e1 e2
                  go_wp2_with fail
                  go_roundw
                  case rel =>
                    refine ⟨m + 1, .inl (by omega), by go_num, ⟨fun i a b hi ha hb => ?_⟩, ⟨pw_below_drewN HQ.out _⟩⟩
                    rcases Nat.lt_succ_iff_lt_or_eq.1 hi with h1 | h1
                    · exact HJ.out i a b h1 ha hb
                    · subst h1
                      have e3 := HE.out
                      have e4 := HF.out
                      rw [ha] at e4
                      rw [hb] at e3
                      cases e3
                      cases e4
                      have := HXY.out
                      omega
                  case measure => simp [intOf]; omega
              · have hmt2 : ¬ ((m : Int) + 1 < (nd.f1.length : Int)) := by omega
                go_wp2_with fail
                go_roundw
                case rel =>
                  refine ⟨k + 1, by omega, by go_num, ⟨fun q hq => ?_⟩, ⟨blk_below HX3.out HQ.out⟩, ⟨below_step HB3.out HQ.out⟩⟩
                  rw [HTk.out, List.mem_append] at hq
                  rcases hq with hq | hq
                  · exact HK.out q hq
                  · rw [List.mem_singleton.1 hq]
                    intro i a b ha hb
                    have := (List.getElem?_eq_some_iff.1 hb).1
                    exact HJ.out i a b (by omega) ha hb
                case measure => simp [intOf]; omega
          · have hc22 : wr.cell? ⟨gb, 22, none⟩ = some (.slice A c.nodes.length cap) := (blk_cell HX3.out 22).trans rfl
            have hf := Aside0.mk (dealtB_yes (l := c.nodes) ⟨hr1, hr2, HAll.out, fun nd h => HK.out nd (by rw [List.take_of_length_le (by omega)]; exact h)⟩)
            go_wp2_with fail
            go_ret
            exact ⟨ret_bool hf.out.symm, HB3.out⟩
  · have hf := Aside0.mk (dealtB_no (fun h : Dealt c.nodes => hr ⟨h.1, h.2.1⟩))
    go_wp2_with fail
    all_goals
      go_ret
      exact ⟨ret_bool hf.out.symm, HB2.out⟩
end Go.Proofs.YtkcpeanimmjajaaDoor.Ring
