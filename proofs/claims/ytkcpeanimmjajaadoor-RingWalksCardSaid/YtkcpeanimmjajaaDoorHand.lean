import Derived.Test.YtkcpeanimmjajaaDoorTwin
namespace Go.Proofs.YtkcpeanimmjajaaDoor.Ring
open Go.RowKit Go.Proofs.YtkcpeanimmjajaaDoorW.PrintWords Go.Proofs.YtkcpeanimmjajaaDoorW.PrintLast Go.Proofs.YtkcpeanimmjajaaDoorW.PrintMore Go.Proofs.YtkcpeanimmjajaaDoor.PRingWalks
set_option linter.unusedVariables false
set_option linter.unusedSimpArgs false

/-- The cells of a definition that is handed in: itself (its nodes at A), what it was (its nodes at B), the list of its nodes and what stands behind it, the lists of its partitions and what stands behind them. -/
def handCells (c : Clu) (A : Option Addr) (ca : Nat) (B : Option Addr) (cb : Nat) (N P : Value) : Array Value :=
  #[.string c.store, .int .i64 c.f1, .int .i64 c.f2, .int .i64 c.f3, .int .i64 c.f4, .int .i64 c.f5, .int .i64 c.f6, .int .i64 c.f7, .int .i64 c.f8, .int .i64 c.f9, .int .i64 c.f10, .int .i64 c.f11, .int .i64 c.f12, .int .i64 c.f13, .int .i64 c.f14, .int .i64 c.f15, .int .i64 c.f16, .int .i64 c.f17, .int .i64 c.f18, .int .i64 c.f19, .int .i64 c.f20, .int .i64 c.f21, .slice A c.nodes.length ca, .string c.store, .int .i64 c.f1, .int .i64 c.f2, .int .i64 c.f3, .int .i64 c.f4, .int .i64 c.f5, .int .i64 c.f6, .int .i64 c.f7, .int .i64 c.f8, .int .i64 c.f9, .int .i64 c.f10, .int .i64 c.f11, .int .i64 c.f12, .int .i64 c.f13, .int .i64 c.f14, .int .i64 c.f15, .int .i64 c.f16, .int .i64 c.f17, .int .i64 c.f18, .int .i64 c.f19, .int .i64 c.f20, .int .i64 c.f21, .slice B c.nodes.length cb, N, P]
theorem built_hand (c : Clu) (A : Option Addr) (ca : Nat) (B : Option Addr) (cb : Nat) : Tryd.prog.built 31 [(0, .agg (c.cells A ca)), (1, .agg (c.cells B cb))] = some (handCells c A ca B cb (.slice none 0 0) (.slice none 0 0)) := by kernel_rfl
theorem hand_setP (c : Clu) (A : Option Addr) (ca : Nat) (B : Option Addr) (cb : Nat) (N P P' : Value) : (handCells c A ca B cb N P).setIfInBounds 47 P' = handCells c A ca B cb N P' := rfl
theorem hand_setN (c : Clu) (A : Option Addr) (ca : Nat) (B : Option Addr) (cb : Nat) (N P N' : Value) : (handCells c A ca B cb N P).setIfInBounds 46 N' = handCells c A ca B cb N' P := rfl
theorem hand_setA (c : Clu) (A : Option Addr) (ca : Nat) (B : Option Addr) (cb : Nat) (N P : Value) (A' : Option Addr) (ca' : Nat) : (handCells c A ca B cb N P).setIfInBounds 22 (.slice A' c.nodes.length ca') = handCells c A' ca' B cb N P := rfl
theorem infoSl : (Tryd.prog.info? 36).map (fun i => (i.zero, i.size, i.bytes)) = some (some (.slice none 0 0), 1, 24) := by kernel_rfl

/-- A list of partitions, and the marks behind it. -/
def marksOf (nd : ND) : List Int := nd.f1 ++ [701, 702, 703]
def ends : List ND := [⟨801, []⟩, ⟨802, []⟩]
theorem ends_reps (w : World) (base : Nat) : Reps (kN.M w base (fun _ => False)) kN.sz ends [.int .i64 801, .slice none 0 0, .int .i64 802, .slice none 0 0] :=
  ((Reps.none _ _).snoc (k56_mkM w base _ ⟨801, []⟩ (Kd.R_nil _ _ _ _ _)) rfl).snoc (k56_mkM w base _ ⟨802, []⟩ (Kd.R_nil _ _ _ _ _)) rfl
abbrev kP : Kd (List Int) := Kd.slice 3 (Kd.int .i64)

section
variable {α : Type} {d : Kd α} {e base g : Nat} {ok : Nat → Prop} {w w1 : World} {v : Value} {xs : List α} {t : TypeId} {cs : Array Value}
/-- A row, and a block of another type that is written. -/
theorem R_off (h : d.R e w base ok v xs) (hb : w.heap[g]? = some (.cells cs t (0, 0))) (ht : ∀ q, q ∈ e :: d.E → q ≠ t) (hg : w.grownBy w1 (some g)) : d.R e w1 base ok v xs :=
  Kd.R_mono (Kd.R_grown (Kd.R_types h hb ht) hg (fun j hj he => by injection he with he; exact hj.2 he)) (fun _ hk => hk.1)
theorem R_slice_n (h : d.R e w base ok v xs) {n : Nat} (hn : xs.length = n) : ∃ A c, v = .slice A n c ∧ n ≤ c := by
  obtain ⟨A, c, h1, h2, _⟩ := Kd.R_reads h
  subst hn
  exact ⟨A, c, h1, h2⟩
end
/-- The first numbers of a row of numbers. -/
theorem R_take {w : World} {base : Nat} {ok : Nat → Prop} {A : Option Addr} {c n : Nat} {l : List Int} (h : (Kd.int .i64).R 3 w base ok (.slice A l.length c) l) (hn : n ≤ l.length) : (Kd.int .i64).R 3 w base ok (.slice A n c) (l.take n) := by
  have ho := own_take (Kd.own_of_R h) hn
  refine Kd.R_of_own (by rw [List.length_take, Nat.min_eq_left hn]; unfold encs at ho ⊢; rw [List.map_take]; simpa using ho) (fun k hk => h.1 k ?_)
  rcases A with _ | a
  · simp [Value.ownBlock] at hk
  · simpa [Value.ownBlock] using hk

section
variable {P : Program} {ops : Array Oper} {Q : Exit → Act → World → Prop}
theorem exec_build {o : Oper} {a : Act} {W : World} (t : TypeId) (parts : Array (Nat × Operand)) (ho : o.op = .build t parts) (vs : List (Nat × Value)) (hv : parts.toList.map (fun (i, x) => (i, a.eval x)) = vs) (cells : Array Value) (hb : P.built t vs = some cells) : (execOp a.eval o).run P W = .ok (.value (.agg cells)) W := by
  unfold execOp
  subst hv
  have hb' : P.built t (parts.map fun (i, x) => (i, a.eval x)).toList = some cells := by rw [Array.toList_map]; exact hb
  simp only [ho, Sem.run_bind, run_build W t _ cells hb', Result.andThen_ok]
  rfl
theorem new_step {oi : Oper} {N : Option Tmp} {a : Act} {w : World} {K : Act → World → Prop} (hw : Region.wanted oi (yielded ops a.tmps) = true) (hN : oi.dst = N) (cs : Array Value) (t : TypeId)
    (hrun : (execOp a.eval oi).run P w = .ok (.value (.pointer (some ⟨w.heap.size, 0, none⟩))) (w.alloc (.cells cs t (0, 0))))
    (h : ∀ g w1, Aside0 (w.heap.size ≤ g) → Aside0 (w1.heap[g]? = some (.cells cs t (0, 0))) → Aside0 (Below w.heap.size w w1) → K (a.put N (.pointer (some ⟨g, 0, none⟩))) w1) : if Region.wanted oi (yielded ops a.tmps) = true then Oper.wp P oi a w K Q else K (a.put N undef) w :=
  value_ hw hN hrun (h _ _ ⟨Nat.le_refl _⟩ ⟨blk_new w _⟩ ⟨below_alloc (Below.refl _ _) _⟩)
theorem store_step {oi : Oper} {a : Act} {w : World} {K : Act → World → Prop} (hw : Region.wanted oi (yielded ops a.tmps) = true) (hN : oi.dst = none) (g i : Nat) (u : Value) (ty : TypeId) (cs : Array Value) (hb : w.heap[g]? = some (.cells cs ty (0, 0)))
    (hrun : (execOp a.eval oi).run P w = .ok .skip (w.setCell ⟨g, i, none⟩ u))
    (h : ∀ w1, Aside0 (w1.heap[g]? = some (.cells (cs.setIfInBounds i u) ty (0, 0))) → Aside0 (w.grownBy w1 (some g)) → K a w1) : if Region.wanted oi (yielded ops a.tmps) = true then Oper.wp P oi a w K Q else K (a.put none undef) w :=
  skip_ hw hN hrun (h _ ⟨blk_set hb i u⟩ ⟨⟨rfl, rfl, rfl, by simp [World.setCell], fun j hj hne => Below.heap_setCell w ⟨g, i, none⟩ u j (fun e => hne (by rw [e]))⟩⟩)
end

/-- The sizes that a definition may have in memory, with room behind its lists. -/
def Clu.fit (c : Clu) : Prop := c.store.size ≤ 140737488351232 ∧ c.nodes.length * 32 ≤ 140737488351232 ∧ ∀ nd ∈ c.nodes, nd.f1.length * 8 ≤ 140737488351232
theorem Clu.fit.ok {c : Clu} (h : c.fit) : c.ok := ⟨h.1, by have := h.2.1; omega, fun nd hn => by have := h.2.2 nd hn; omega⟩

/-- A definition that is handed in, in memory. -/
def HandPost (c : Clu) (w : World) (e : Ending) (w' : World) : Prop :=
  ∃ g A ca B cb P cp, e = .returned (.pointer (some ⟨g, 0, none⟩)) ∧ w'.heap[g]? = some (.cells (handCells c A ca B cb (.slice A (c.nodes.length + 2) ca) (.slice P c.nodes.length cp)) 31 (0, 0)) ∧
    Kd.R kN 56 w' w.heap.size (fun _ => True) (.slice A (c.nodes.length + 2) ca) (c.nodes ++ ends) ∧ Kd.R kN 56 w' w.heap.size (fun _ => True) (.slice B c.nodes.length cb) c.nodes ∧
    Kd.R kP 36 w' w.heap.size (fun _ => True) (.slice P c.nodes.length cp) (c.nodes.map marksOf) ∧ Below w.heap.size w w'
def hand1.T1 : Bool × List (List Nat × List Nat) := (true, [([], []), ([], []), ([1], [1]), ([0, 2], [0, 2]), ([3], [3]), ([4, 2, 0, 1, 2, 3, 4], [4])])
def hand1.B1 : List Nat := [0, 0, 2, 7, 15, 31]
theorem hand1.tab1 : rtab .any (opsOf Tryd.f10 1) = hand1.T1 := by kernel_rfl
theorem hand1.bits1 : waitsOk hand1.T1.2 hand1.B1 = true := by kernel_rfl
def hand9.T9 : Bool × List (List Nat × List Nat) := (true, [([], []), ([], []), ([1], [1]), ([2], [2]), ([3], [3]), ([], []), ([5], [5]), ([], []), ([6, 7], [6, 7]), ([8], [8]), ([9], [9]), ([], []), ([], []), ([11, 12], [11, 12]), ([10, 13], [10, 13]), ([14], [14]), ([4, 15], [4, 15]), ([0, 0, 1, 2, 3, 4, 5, 6, 7, 8, 9, 10, 11, 12, 13, 14, 15, 16], [0]), ([17, 0, 1, 2, 3, 4, 5, 6, 7, 8, 9, 10, 11, 12, 13, 14, 15, 16], [17]), ([18, 16, 16, 0, 1, 2, 3, 4, 5, 6, 7, 8, 9, 10, 11, 12, 13, 14, 15, 16], [16, 18])])
def hand9.B9 : List Nat := [0, 0, 2, 6, 14, 0, 32, 0, 224, 480, 992, 0, 0, 6144, 16352, 32736, 65534, 131071, 262143, 524287]
theorem hand9.tab9 : rtab .any (opsOf Tryd.f10 9) = hand9.T9 := by kernel_rfl
theorem hand9.bits9 : waitsOk hand9.T9.2 hand9.B9 = true := by kernel_rfl
set_option maxHeartbeats 8000000 in
set_option maxRecDepth 100000 in
theorem hand_calls (c : Clu) (A : Option Addr) (cap : Nat) (w : World) (HA : Kd.C kN w A c.nodes.length c.nodes) (hfit : c.fit) :
    Calls Tryd.prog 10 #[.agg (c.cells A cap)] w fun e w' => HandPost c w e w' := by
  have HRA := Aside0.mk HA
  clear HA
  go_enter Tryd.func10, Tryd.ntmps10
  go_wp2_with (first | ((with_reducible refine gate_dst (N := 1) rfl ?_); refine new_event ?hg (N := 1) ?hd (c.cells A cap) 24 ?hr ?_; (case hd => rfl); (case hg => rfl); (case hr => first | (go_simp; done) | (go_simp; rfl)); intro ga w1 GA XA B1))
  refine start_ (n := 6) (S := fun w' => Below w.heap.size w w' ∧ w'.heap[ga]? = some (.cells (c.cells A cap) 24 (0, 0))) (ds := []) #[false, false, false, false, false, false] (by kernel_rfl) rfl rfl ⟨below_drew1 B1.out, blk_drew XA.out⟩ (fun hHeld => ?_); refine with_tabW hand1.tab1 hand1.bits1 (fun HT_ HW_ => ?_)
  clear XA B1
  generalize w1.drew = w40 at hHeld ⊢
  refine take_ (i := 0) (N := some 8) (v := ?_) (a' := ?_) #[true, false, false, false, false, false] rfl rfl (take_ofW HT_.out HW_.out (by kernel_rfl)) (fun _ _ _ h => h) (Or.inl ⟨by rfl, ?_⟩) hHeld ?_ ?_
  rotate_left
  · rintro w' ⟨hS0, hS1⟩
    (refine exec_load_row 24 (.tmp 1) ?_ ga ?_ (c.cells A cap) 24 hS1 _ Tryd.underlying24 ?_ infoClu; all_goals rfl)
  rotate_left
  · simp only [Act.put, List.setIfInBounds_toArray, List.set_cons_zero, List.set_cons_succ, i64_w, i32_w]
    rfl
  refine take_ (i := 1) (N := some 9) (v := ?_) (a' := ?_) #[true, true, false, false, false, false] rfl rfl (take_ofW HT_.out HW_.out (by kernel_rfl)) (fun _ _ _ h => h) (Or.inl ⟨by rfl, ?_⟩) hHeld ?_ ?_
  rotate_left
  · rintro w' ⟨hS0, hS1⟩
    (refine exec_load_row 24 (.tmp 1) ?_ ga ?_ (c.cells A cap) 24 hS1 _ Tryd.underlying24 ?_ infoClu; all_goals rfl)
  rotate_left
  · simp only [Act.put, List.setIfInBounds_toArray, List.set_cons_zero, List.set_cons_succ, i64_w, i32_w]
    rfl
  refine one_ (i := 2) (N := some 10) #[true, true, true, false, false, false] rfl rfl (one_of HT_.out (by kernel_rfl)) (by decide) (fun K hK => ?_)
  refine goes_ Tryd.func23 (by kernel_rfl) rfl #[.agg (c.cells A cap)] (by rfl) rfl rfl (by (try simp only [List.map_toArray, List.map_cons, List.map_nil]); first | done | rfl) ?_
  refine (twin_calls c A cap w40 (Kd.C_below HRA.out hHeld.1) hfit.ok).mono ?_
  rintro e w5 ⟨B, cb, rfl, HT, hb5⟩
  refine ⟨_, rfl, ?_⟩
  have HTw := Aside0.mk (Kd.R_lower HT hHeld.1.size)
  clear HT
  refine hK.out _ _ ⟨below_step hHeld.1 hb5, blk_below hHeld.2 hb5⟩ (fun hHeld => ?_)
  clear hK K
  refine norm_ (a' := ?_) ?_ ?_
  rotate_left
  · show Act.put _ (some 10) _ = _
    simp only [Act.put, List.setIfInBounds_toArray, List.set_cons_zero, List.set_cons_succ, i64_w, i32_w]
    rfl
  refine pure_ (i := 3) (N := some 11) (v := ?_) (a' := ?_) #[true, true, true, true, false, false] rfl rfl (any_of HT_.out (by kernel_rfl)) (fun _ _ _ h => h) (Or.inl ⟨by rfl, ?_⟩) ?_ ?_
  rotate_left
  · intro w'
    refine exec_build 31 #[(0, .tmp 8), (1, .tmp 10)] ?_ [(0, .agg (c.cells A cap)), (1, .agg (c.cells B cb))] ?_ _ (built_hand c A cap B cb); all_goals rfl
  rotate_left
  · simp only [Act.put, List.setIfInBounds_toArray, List.set_cons_zero, List.set_cons_succ, i64_w, i32_w]
    rfl
  refine one_ (i := 4) (N := some 12) #[true, true, true, true, true, false] rfl rfl (one_of HT_.out (by kernel_rfl)) (by decide) (fun K hK => ?_)
  refine new_step (by rfl) rfl (handCells c A cap B cb (.slice none 0 0) (.slice none 0 0)) 31 ?_ (fun gh w6 GH XH B6 => ?_)
  · first | (go_simp; done) | (go_simp; rfl)
  have HX := hHeld
  refine hK.out _ _ ⟨below_step hHeld.1 B6.out, blk_below hHeld.2 B6.out⟩ (fun hHeld => ?_)
  clear hK K
  refine norm_ (a' := ?_) ?_ ?_
  rotate_left
  · show Act.put _ (some 12) _ = _
    simp only [Act.put, List.setIfInBounds_toArray, List.set_cons_zero, List.set_cons_succ, i64_w, i32_w]
    rfl
  refine pure_ (i := 5) (N := some 3) (v := ?_) (a' := ?_) #[true, true, true, true, true, true] rfl rfl (any_of HT_.out (by kernel_rfl)) (fun _ _ _ h => h) (Or.inl ⟨by rfl, ?_⟩) ?_ ?_
  rotate_left
  · intro w'
    go_simp
    with_reducible rfl
  rotate_left
  · simp only [Act.put, List.setIfInBounds_toArray, List.set_cons_zero, List.set_cons_succ, i64_w, i32_w]
    rfl
  refine done_ (done_of HT_.out (by kernel_rfl)) ?_
  clear HT_ HW_
  obtain ⟨BW5, XA⟩ := HX
  have BW5 := Aside0.mk BW5
  have XA := Aside0.mk XA
  clear hHeld
  have hghw : w.heap.size ≤ gh := Nat.le_trans BW5.out.size GH.out
  have HGW := Aside0.mk hghw
  clear hghw
  have hn32 := hfit.2.1
  have hca22 : w6.cell? ⟨ga, 22, none⟩ = some (.slice A c.nodes.length cap) := (blk_cell (blk_below XA.out B6.out) 22).trans rfl
  go_wp2_with fail
  clear hca22
  go_loopw [4] (fun i wr => ∃ (k : Nat) (A1 : Option Addr) (c1 : Nat) (P1 : Option Addr) (p1 : Nat), k ≤ c.nodes.length ∧ i = .int .i64 k ∧ Aside0 (wr.heap[gh]? = some (.cells (handCells c A cap B cb (.slice A1 k c1) (.slice P1 k p1)) 31 (0, 0))) ∧
    Aside0 (Kd.R kN 56 wr w5.heap.size (fun _ => True) (.slice A1 k c1) (c.nodes.take k)) ∧ Aside0 (Kd.R kP 36 wr w5.heap.size (fun _ => True) (.slice P1 k p1) ((c.nodes.take k).map marksOf)) ∧ Aside0 (Below w5.heap.size w5 wr)) (fun i _ => c.nodes.length - (intOf i).toNat)
  case atStart => exact ⟨0, none, 0, none, 0, Nat.zero_le _, rfl, XH, ⟨Kd.R_nil _ _ _ _ _⟩, ⟨Kd.R_nil _ _ _ _ _⟩, B6⟩
  case round =>
    clear XH
    obtain ⟨k, A1, c1, P1, p1, hk, rfl, XH, HN, HP, BR⟩ := hrel
    have XAr := Aside0.mk (blk_below XA.out BR.out)
    by_cases hlt : k < c.nodes.length
    · obtain ⟨adA, Ax, cx, nd, rfl, hnd, hz0, hz1, hlx, hCx⟩ := node_at HRA.out k hlt
      have hnl := hfit.2.2 nd (List.mem_of_getElem? hnd)
      have HTk : Aside0 (c.nodes.take (k + 1) = c.nodes.take k ++ [nd]) := ⟨by
        obtain ⟨h1, h2⟩ := List.getElem?_eq_some_iff.1 hnd
        rw [List.take_succ_eq_append_getElem h1, h2]⟩
      have HL := Aside0.mk (show (c.nodes.take k).length ≤ k from List.length_take_le _ _)
      clear hnd
      have HCx := Aside0.mk (Kd.C_below hCx (below_step BW5.out BR.out))
      have HZ0 := Aside0.mk hz0
      have hz1r := pw_cell_below (below_step BW5.out BR.out) hz1
      clear hCx hz0 hz1
      have HQP := Aside0.mk (show ∀ j, wr.heap.size ≤ j → True ∧ some j ≠ (Value.slice P1 k p1).ownBlock from fun j hj => ⟨trivial, fun he => by have := Kd.R_lt HP.out j he.symm; omega⟩)
      have HQN := Aside0.mk (show ∀ j, wr.heap.size ≤ j → True ∧ some j ≠ (Value.slice A1 k c1).ownBlock from fun j hj => ⟨trivial, fun he => by have := Kd.R_lt HN.out j he.symm; omega⟩)
      have HMk : Aside0 ((c.nodes.take k).map marksOf ++ [marksOf nd] = (c.nodes.take (k + 1)).map marksOf) := ⟨by rw [HTk.out, List.map_append]; rfl⟩
      have HLp := Aside0.mk (show ((c.nodes.take k).map marksOf).length ≤ k by rw [List.length_map]; exact HL.out)
      have HL1 := Aside0.mk (show (c.nodes.take (k + 1)).length = k + 1 by rw [List.length_take]; omega)
      have HLp1 := Aside0.mk (show ((c.nodes.take (k + 1)).map marksOf).length = k + 1 by rw [List.length_map]; exact HL1.out)
      have hca22 : wr.cell? ⟨ga, 22, none⟩ = some (.slice (some adA) c.nodes.length cap) := (blk_cell XAr.out 22).trans rfl
      have b2 : (k : Int) < (c.nodes.length : Int) := by omega
      go_wp2_with (first | ((with_reducible refine gate_builtin (b := .append) (xs := #[.const (.slice none 0 0), .tmp 25]) rfl ?_); at_builtin; refine Kd.R_append_rows (Kd.int .i64) (w0 := wr) wr.heap.size rfl (.const (.slice none 0 0)) (.tmp 25) 36 3 (.int .i64 0) 8 rfl Tryd.underlying36 infoInt rfl (by decide) (by decide) (.slice none 0 0) [] nd.f1 Ax nd.f1.length cx (fun j => wr.heap.size ≤ j) (fun _ => False) rfl rfl (Kd.R_nil _ _ _ _ _) HCx.out (fun x cs h => h) (fun _ hk => hk.elim) (fun j hj => hj) (Below.refl _ _) (Nat.le_refl _) (by simp only [List.length_nil]; omega) ?_; intro v5 w7 HL7 hb7 hg7 hat7; simp only [List.nil_append] at HL7; obtain ⟨A7, c7, rfl⟩ := Kd.R_slice HL7; have HL7 := Aside0.mk HL7; have HB7 := Aside0.mk hb7; clear hb7 hg7 hat7 hz1r hca22) | ((with_reducible refine gate_dst (N := 30) rfl ?_); refine Kd.R_lit (Kd.int .i64) (w0 := wr) wr.heap.size 3 ?hg (N := 30) ?hd (xs := [701, 702, 703]) (inner := [.int .i64 701, .int .i64 702, .int .i64 703]) (ok := fun _ => True) (okp := fun _ => False) ?hr (Kd.reps_scalar _) (fun _ h => h.elim) trivial HB7.out HB7.out.size (by decide) ?_; (case hd => rfl); (case hg => rfl); (case hr => first | (go_simp; done) | (go_simp; rfl)); intro vm w8 HM8 hb8 hg8 hat8; obtain ⟨Am, cm, rfl, hcm, HMC⟩ := Kd.R_reads HM8; have HMC := Aside0.mk HMC; have HL8 := Aside0.mk (Kd.R_grown HL7.out hg8 (fun j _ => by simp)); have HB8 := Aside0.mk hb8; clear hb8 hg8 hat8 HM8 hcm) | ((with_reducible refine gate_builtin (b := .append) (xs := #[.tmp 29, .tmp 30]) rfl ?_); at_builtin; refine Kd.R_append_rows (Kd.int .i64) (w0 := wr) wr.heap.size rfl (.tmp 29) (.tmp 30) 36 3 (.int .i64 0) 8 rfl Tryd.underlying36 infoInt rfl (by decide) (by decide) (.slice A7 nd.f1.length c7) nd.f1 [701, 702, 703] Am 3 cm (fun j => wr.heap.size ≤ j) (fun _ => False) rfl rfl HL8.out HMC.out (fun x cs h => h) (fun _ hk => hk.elim) (fun j hj => Nat.le_trans HB8.out.size hj) HB8.out HB8.out.size (by omega) ?_; intro v9 w9 HL9 hb9 hg9 hat9; obtain ⟨A9, c9, rfl, hc9⟩ := R_slice_n HL9 (n := nd.f1.length + 3) (by rw [List.length_append]; rfl); have HL9 := Aside0.mk HL9; have HB9 := Aside0.mk hb9; clear hb9 hg9 hat9 HMC; have XH9 := Aside0.mk (blk_below XH.out HB9.out); have HN9 := Aside0.mk (Kd.R_below HN.out HB9.out); have HP9 := Aside0.mk (Kd.R_below HP.out HB9.out); have BR9 := Aside0.mk (below_step BR.out HB9.out); have hp47 : w9.cell? ⟨gh, 47, none⟩ = some (.slice P1 k p1) := (blk_cell XH9.out 47).trans rfl) | ((with_reducible refine gate_builtin (b := .append) (xs := #[.tmp 36, .tmp 38]) rfl ?_); at_builtin; refine Kd.R_append kP (w0 := w5) w5.heap.size rfl (.tmp 36) (.tmp 38) 29 36 (.slice none 0 0) 24 rfl Tryd.underlying29 infoSl rfl (by decide) (by decide) (.slice P1 k p1) ((c.nodes.take k).map marksOf) (marksOf nd) [.slice A9 (nd.f1.length + 3) c9] (fun _ => True) (fun j => wr.heap.size ≤ j) rfl rfl (Kd.M_row (Kd.R_lower HL9.out BR.out.size)) HQP.out (fun _ _ => trivial) HP9.out BR9.out BR9.out.size (by have h1 := HLp.out; omega) ?_; intro vp w10 HP10 hb10 hg10 hat10; rw [HMk.out] at HP10; obtain ⟨P2, p2, rfl, hp2⟩ := R_slice_n HP10 HLp1.out; have HP10 := Aside0.mk HP10; have BR10 := Aside0.mk hb10; have XH10 := Aside0.mk (blk_grown XH9.out hg10 (Kd.R_ne HP9.out XH9.out (by decide))); have HN10 := Aside0.mk (Kd.R_over HN9.out HP9.out (by decide) hg10); have HL10 := Aside0.mk (Kd.R_over HL9.out HP9.out (by decide) hg10); clear hb10 hg10 hat10 hp47) | ((with_reducible refine gate_store (t := 29) (p := 41) (v := .tmp 39) rfl ?_); refine store_cell_event rfl 29 41 (.tmp 39) rfl rfl gh 47 (.slice P2 (k + 1) p2) 31 (handCells c (some adA) cap B cb (.slice A1 k c1) (.slice P1 k p1)) XH10.out ?hr ?_; (case hr => (have hz_ : _ = some (.slice P1 k p1 : Value) := (blk_cell XH10.out 47).trans rfl; have hf_ := blk_frozen XH10.out 47; first | (go_simp; done) | (go_simp; rfl))); intro w11 XH11r G11; have XH11 : Aside0 (w11.heap[gh]? = some (.cells (handCells c (some adA) cap B cb (.slice A1 k c1) (.slice P2 (k + 1) p2)) 31 (0, 0))) := ⟨by have h := XH11r.out; rwa [hand_setP] at h⟩; have HN11 := Aside0.mk (R_off HN10.out XH10.out (by decide) G11.out); have HP11 := Aside0.mk (R_off HP10.out XH10.out (by decide) G11.out); have HL11 := Aside0.mk (R_off HL10.out XH10.out (by decide) G11.out); have BR11 := Aside0.mk (below_row BR10.out GH.out G11.out); clear XH11r G11) | fail)
      have HT := Aside0.mk (show (Kd.int .i64).R 3 w11 w5.heap.size (fun j => wr.heap.size ≤ j) (.slice A9 nd.f1.length c9) nd.f1 from by
        have h := R_take (n := nd.f1.length) (l := nd.f1 ++ [701, 702, 703]) (by rw [List.length_append]; exact Kd.R_lower HL11.out BR.out.size) (by rw [List.length_append]; omega)
        rwa [List.take_left' rfl] at h)
      have b3 : (nd.f1.length : Int) ≤ (c9 : Int) := by omega
      have b4 : (0 : Int) ≤ (nd.f1.length : Int) := by omega
      refine start_ (n := 20) (S := fun w' => Below w5.heap.size w5 w' ∧ w'.heap[gh]? = some (.cells (handCells c (some adA) cap B cb (.slice A1 k c1) (.slice P2 (k + 1) p2)) 31 (0, 0))) (ds := [19]) #[false, false, false, false, false, false, false, false, false, false, false, false, false, false, false, false, false, false, false, false] (by kernel_rfl) rfl rfl ⟨below_drew1 BR11.out, blk_drew XH11.out⟩ (fun hHeld => ?_); refine with_tabW hand9.tab9 hand9.bits9 (fun HT_ HW_ => ?_)
      have HN11 := Aside0.mk (Kd.R_drew HN11.out)
      have HP11 := Aside0.mk (Kd.R_drew HP11.out)
      have HT := Aside0.mk (Kd.R_drew HT.out)
      clear BR11 XH11
      generalize w11.drew = w40 at HN11 HP11 HT hHeld ⊢
      refine pure_ (i := 0) (N := some 42) (v := ?_) (a' := ?_) #[true, false, false, false, false, false, false, false, false, false, false, false, false, false, false, false, false, false, false, false] rfl rfl (any_of HT_.out (by kernel_rfl)) (fun _ _ _ h => h) (Or.inl ⟨by rfl, ?_⟩) ?_ ?_
      rotate_left
      · intro w'
        go_simp
        with_reducible rfl
      rotate_left
      · simp only [Act.put, List.setIfInBounds_toArray, List.set_cons_zero, List.set_cons_succ, i64_w, i32_w]
        rfl
      refine pure_ (i := 1) (N := some 43) (v := ?_) (a' := ?_) #[true, true, false, false, false, false, false, false, false, false, false, false, false, false, false, false, false, false, false, false] rfl rfl (any_of HT_.out (by kernel_rfl)) (fun _ _ _ h => h) (Or.inl ⟨by rfl, ?_⟩) ?_ ?_
      rotate_left
      · intro w'
        go_simp
        with_reducible rfl
      rotate_left
      · simp only [Act.put, List.setIfInBounds_toArray, List.set_cons_zero, List.set_cons_succ, i64_w, i32_w]
        rfl
      refine pure_ (i := 2) (N := some 44) (v := ?_) (a' := ?_) #[true, true, true, false, false, false, false, false, false, false, false, false, false, false, false, false, false, false, false, false] rfl rfl (any_of HT_.out (by kernel_rfl)) (fun _ _ _ h => h) (Or.inl ⟨by rfl, ?_⟩) ?_ ?_
      rotate_left
      · intro w'
        go_simp
        with_reducible rfl
      rotate_left
      · simp only [Act.put, List.setIfInBounds_toArray, List.set_cons_zero, List.set_cons_succ, i64_w, i32_w]
        rfl
      refine pure_ (i := 3) (N := some 45) (v := ?_) (a' := ?_) #[true, true, true, true, false, false, false, false, false, false, false, false, false, false, false, false, false, false, false, false] rfl rfl (any_of HT_.out (by kernel_rfl)) (fun _ _ _ h => h) (Or.inl ⟨by rfl, ?_⟩) ?_ ?_
      rotate_left
      · intro w'
        go_simp
        with_reducible rfl
      rotate_left
      · simp only [Act.put, List.setIfInBounds_toArray, List.set_cons_zero, List.set_cons_succ, i64_w, i32_w]
        rfl
      refine pure_ (i := 5) (N := some 47) (v := ?_) (a' := ?_) #[true, true, true, true, false, true, false, false, false, false, false, false, false, false, false, false, false, false, false, false] rfl rfl (any_of HT_.out (by kernel_rfl)) (fun _ _ _ h => h) (Or.inl ⟨by rfl, ?_⟩) ?_ ?_
      rotate_left
      · intro w'
        go_simp
        with_reducible rfl
      rotate_left
      · simp only [Act.put, List.setIfInBounds_toArray, List.set_cons_zero, List.set_cons_succ, i64_w, i32_w]
        rfl
      refine pure_ (i := 7) (N := some 49) (v := ?_) (a' := ?_) #[true, true, true, true, false, true, false, true, false, false, false, false, false, false, false, false, false, false, false, false] rfl rfl (any_of HT_.out (by kernel_rfl)) (fun _ _ _ h => h) (Or.inl ⟨by rfl, ?_⟩) ?_ ?_
      rotate_left
      · intro w'
        go_simp
        with_reducible rfl
      rotate_left
      · simp only [Act.put, List.setIfInBounds_toArray, List.set_cons_zero, List.set_cons_succ, i64_w, i32_w]
        rfl
      refine pure_ (i := 11) (N := some 53) (v := ?_) (a' := ?_) #[true, true, true, true, false, true, false, true, false, false, false, true, false, false, false, false, false, false, false, false] rfl rfl (any_of HT_.out (by kernel_rfl)) (fun _ _ _ h => h) (Or.inl ⟨by rfl, ?_⟩) ?_ ?_
      rotate_left
      · intro w'
        go_simp
        with_reducible rfl
      rotate_left
      · simp only [Act.put, List.setIfInBounds_toArray, List.set_cons_zero, List.set_cons_succ, i64_w, i32_w]
        rfl
      refine pure_ (i := 12) (N := some 54) (v := ?_) (a' := ?_) #[true, true, true, true, false, true, false, true, false, false, false, true, true, false, false, false, false, false, false, false] rfl rfl (any_of HT_.out (by kernel_rfl)) (fun _ _ _ h => h) (Or.inl ⟨by rfl, ?_⟩) ?_ ?_
      rotate_left
      · intro w'
        go_simp
        with_reducible rfl
      rotate_left
      · simp only [Act.put, List.setIfInBounds_toArray, List.set_cons_zero, List.set_cons_succ, i64_w, i32_w]
        rfl
      refine pure_ (i := 13) (N := some 55) (v := ?_) (a' := ?_) #[true, true, true, true, false, true, false, true, false, false, false, true, true, true, false, false, false, false, false, false] rfl rfl (any_of HT_.out (by kernel_rfl)) (fun _ _ _ h => h) (Or.inl ⟨by rfl, ?_⟩) ?_ ?_
      rotate_left
      · intro w'
        go_simp
        with_reducible rfl
      rotate_left
      · simp only [Act.put, List.setIfInBounds_toArray, List.set_cons_zero, List.set_cons_succ, i64_w, i32_w]
        rfl
      refine take_ (i := 4) (N := some 46) (v := ?_) (a' := ?_) #[true, true, true, true, true, true, false, true, false, false, false, true, true, true, false, false, false, false, false, false] rfl rfl (take_ofW HT_.out HW_.out (by kernel_rfl)) (fun _ _ _ h => h) (Or.inl ⟨by rfl, ?_⟩) hHeld ?_ ?_
      rotate_left
      · rintro w' ⟨hS0, hS1⟩
        (have h1 : w'.cell? ⟨gh, 46, none⟩ = some (.slice A1 k c1) := (blk_cell hS1 46).trans rfl; go_simp; with_reducible rfl)
      rotate_left
      · simp only [Act.put, List.setIfInBounds_toArray, List.set_cons_zero, List.set_cons_succ, i64_w, i32_w]
        rfl
      refine take_ (i := 6) (N := some 48) (v := ?_) (a' := ?_) #[true, true, true, true, true, true, true, true, false, false, false, true, true, true, false, false, false, false, false, false] rfl rfl (take_ofW HT_.out HW_.out (by kernel_rfl)) (fun _ _ _ h => h) (Or.inl ⟨by rfl, ?_⟩) hHeld ?_ ?_
      rotate_left
      · rintro w' ⟨hS0, hS1⟩
        (have h1 : w'.cell? ⟨ga, 22, none⟩ = some (.slice (some adA) c.nodes.length cap) := (blk_cell (blk_below XA.out hS0) 22).trans rfl; go_simp; with_reducible rfl)
      rotate_left
      · simp only [Act.put, List.setIfInBounds_toArray, List.set_cons_zero, List.set_cons_succ, i64_w, i32_w]
        rfl
      refine pure_ (i := 8) (N := some 50) (v := ?_) (a' := ?_) #[true, true, true, true, true, true, true, true, true, false, false, true, true, true, false, false, false, false, false, false] rfl rfl (any_of HT_.out (by kernel_rfl)) (fun _ _ _ h => h) (Or.inl ⟨by rfl, ?_⟩) ?_ ?_
      rotate_left
      · intro w'
        go_simp
        with_reducible rfl
      rotate_left
      · simp only [Act.put, List.setIfInBounds_toArray, List.set_cons_zero, List.set_cons_succ, i64_w, i32_w]
        rfl
      refine pure_ (i := 9) (N := some 51) (v := ?_) (a' := ?_) #[true, true, true, true, true, true, true, true, true, true, false, true, true, true, false, false, false, false, false, false] rfl rfl (any_of HT_.out (by kernel_rfl)) (fun _ _ _ h => h) (Or.inl ⟨by rfl, ?_⟩) ?_ ?_
      rotate_left
      · intro w'
        go_simp
        with_reducible rfl
      rotate_left
      · simp only [Act.put, List.setIfInBounds_toArray, List.set_cons_zero, List.set_cons_succ, i64_w, i32_w]
        rfl
      refine take_ (i := 10) (N := some 52) (v := ?_) (a' := ?_) #[true, true, true, true, true, true, true, true, true, true, true, true, true, true, false, false, false, false, false, false] rfl rfl (take_ofW HT_.out HW_.out (by kernel_rfl)) (fun _ _ _ h => h) (Or.inl ⟨by rfl, ?_⟩) hHeld ?_ ?_
      rotate_left
      · rintro w' ⟨hS0, hS1⟩
        (have h1 := pw_cell_below (below_step BW5.out hS0) HZ0.out; go_simp; with_reducible rfl)
      rotate_left
      · simp only [Act.put, List.setIfInBounds_toArray, List.set_cons_zero, List.set_cons_succ, i64_w, i32_w]
        rfl
      refine pure_ (i := 14) (N := some 56) (v := ?_) (a' := ?_) #[true, true, true, true, true, true, true, true, true, true, true, true, true, true, true, false, false, false, false, false] rfl rfl (any_of HT_.out (by kernel_rfl)) (fun _ _ _ h => h) (Or.inl ⟨by rfl, ?_⟩) ?_ ?_
      rotate_left
      · intro w'
        go_simp
        with_reducible rfl
      rotate_left
      · simp only [Act.put, List.setIfInBounds_toArray, List.set_cons_zero, List.set_cons_succ, i64_w, i32_w]
        rfl
      refine one_ (i := 15) (N := some 57) #[true, true, true, true, true, true, true, true, true, true, true, true, true, true, true, true, false, false, false, false] rfl rfl (one_of HT_.out (by kernel_rfl)) (by decide) (fun K hK => ?_)
      refine value_ (w1 := ?_) (v := ?_) (by rfl) rfl ?_ ?_
      rotate_left 2
      · go_simp
        constructor
        · rfl
        · rfl
      have BR12 := Aside0.mk hHeld.1
      have XH12 := Aside0.mk hHeld.2
      refine hK.out _ _ ⟨below_alloc hHeld.1 _, blk_alloc hHeld.2 _⟩ (fun hHeld => ?_)
      clear hK K
      refine norm_ (a' := ?_) ?_ ?_
      rotate_left
      · show Act.put _ (some 57) _ = _
        simp only [Act.put, List.setIfInBounds_toArray, List.set_cons_zero, List.set_cons_succ, i64_w, i32_w]
        rfl
      refine one_ (i := 16) (N := some 58) #[true, true, true, true, true, true, true, true, true, true, true, true, true, true, true, true, true, false, false, false] rfl rfl (one_of HT_.out (by kernel_rfl)) (by decide) (fun K hK => ?_)
      refine Kd.R_append_step kN (w0 := w5) w5.heap.size (by rfl) (.tmp 46) (.tmp 57) 22 56 (.agg #[.int .i64 0, .slice none 0 0]) 32 rfl Tryd.underlying22 infoND rfl (by decide) (by decide) (.slice A1 k c1) (c.nodes.take k) nd [.int .i64 nd.f0, .slice A9 nd.f1.length c9] (fun _ => True) (fun j => wr.heap.size ≤ j) rfl rfl (k56_mkM _ _ _ nd HT.out) HQN.out (fun _ _ => trivial) HN11.out BR12.out BR12.out.size (by have := HL.out; omega) ?_
      intro v1 w13 HN13 hb13 hg13 hat13
      rw [← HTk.out] at HN13
      obtain ⟨A2, c2, rfl, hc2⟩ := R_slice_n HN13 HL1.out
      have HN13 := Aside0.mk HN13
      have HB13 := Aside0.mk hb13
      have XH13 := Aside0.mk (blk_grown XH12.out hg13 (Kd.R_ne HN11.out XH12.out (by decide)))
      have HP13 := Aside0.mk (Kd.R_over HP11.out HN11.out (by decide) hg13)
      clear hg13 hat13 XH12
      refine hK.out _ _ ⟨hb13, XH13.out⟩ (fun hHeld => ?_)
      clear hK K
      refine norm_ (a' := ?_) ?_ ?_
      rotate_left
      · show Act.put _ (some 58) _ = _
        simp only [Act.put, List.setIfInBounds_toArray, List.set_cons_zero, List.set_cons_succ, i64_w, i32_w]
        rfl
      refine pure_ (i := 17) (N := some 59) (v := ?_) (a' := ?_) #[true, true, true, true, true, true, true, true, true, true, true, true, true, true, true, true, true, true, false, false] rfl rfl (any_of HT_.out (by kernel_rfl)) (fun _ _ _ h => h) (Or.inl ⟨by rfl, ?_⟩) ?_ ?_
      rotate_left
      · intro w'
        go_simp
        with_reducible rfl
      rotate_left
      · simp only [Act.put, List.setIfInBounds_toArray, List.set_cons_zero, List.set_cons_succ, i64_w, i32_w]
        rfl
      refine pure_ (i := 18) (N := some 60) (v := ?_) (a' := ?_) #[true, true, true, true, true, true, true, true, true, true, true, true, true, true, true, true, true, true, true, false] rfl rfl (any_of HT_.out (by kernel_rfl)) (fun _ _ _ h => h) (Or.inl ⟨by rfl, ?_⟩) ?_ ?_
      rotate_left
      · intro w'
        go_simp
        with_reducible rfl
      rotate_left
      · simp only [Act.put, List.setIfInBounds_toArray, List.set_cons_zero, List.set_cons_succ, i64_w, i32_w]
        rfl
      refine last_ (i := 19) (N := none) #[true, true, true, true, true, true, true, true, true, true, true, true, true, true, true, true, true, true, true, true] rfl rfl (one_of HT_.out (by kernel_rfl)) (by decide) (fun K hK => ?_)
      refine store_step (by rfl) rfl gh 46 (.slice A2 (k + 1) c2) 31 _ XH13.out ?_ (fun w14 XH14 G14 => ?_)
      · have hz_ : _ = some (.slice A1 k c1 : Value) := (blk_cell XH13.out 46).trans rfl
        have hf_ := blk_frozen XH13.out 46
        first | (go_simp; done) | (go_simp; rfl)
      have XH14 : Aside0 (w14.heap[gh]? = some (.cells (handCells c (some adA) cap B cb (.slice A2 (k + 1) c2) (.slice P2 (k + 1) p2)) 31 (0, 0))) := ⟨by have h := XH14.out; rwa [hand_setN] at h⟩
      have HN14 := Aside0.mk (R_off HN13.out XH13.out (by decide) G14.out)
      have HP14 := Aside0.mk (R_off HP13.out XH13.out (by decide) G14.out)
      have BR14 := Aside0.mk (below_row HB13.out GH.out G14.out)
      refine hK.out _ _ ?_
      clear hK K
      refine done_ (done_of HT_.out (by kernel_rfl)) ?_
      clear HT_ HW_
      go_wp2_with fail
      go_roundw
      case rel => exact ⟨k + 1, A2, c2, P2, p2, by omega, by go_num, XH14, HN14, HP14, BR14⟩
      case measure => simp [intOf]; omega
    · obtain rfl : k = c.nodes.length := by omega
      have HN : Aside0 (Kd.R kN 56 wr w5.heap.size (fun _ => True) (.slice A1 c.nodes.length c1) c.nodes) := ⟨by
        have h := HN.out
        rwa [List.take_of_length_le (Nat.le_refl _)] at h⟩
      have HP : Aside0 (Kd.R kP 36 wr w5.heap.size (fun _ => True) (.slice P1 c.nodes.length p1) (c.nodes.map marksOf)) := ⟨by
        have h := HP.out
        rwa [List.take_of_length_le (Nat.le_refl _)] at h⟩
      have HQN := Aside0.mk (show ∀ j, wr.heap.size ≤ j → True ∧ some j ≠ (Value.slice A1 c.nodes.length c1).ownBlock from fun j hj => ⟨trivial, fun he => by have := Kd.R_lt HN.out j he.symm; omega⟩)
      have hca22 : wr.cell? ⟨ga, 22, none⟩ = some (.slice A c.nodes.length cap) := (blk_cell XAr.out 22).trans rfl
      have hn46 : wr.cell? ⟨gh, 46, none⟩ = some (.slice A1 c.nodes.length c1) := (blk_cell XH.out 46).trans rfl
      have b1 : (0 : Int) ≤ (c.nodes.length : Int) := by omega
      have b2 : (c.nodes.length : Int) ≤ (c.nodes.length : Int) + 2 := by omega
      go_wp2_with (first | ((with_reducible refine gate_dst (N := 73) rfl ?_); refine Kd.R_lit kN (w0 := wr) wr.heap.size 56 ?hg (N := 73) ?hd (xs := ends) (inner := [.int .i64 801, .slice none 0 0, .int .i64 802, .slice none 0 0]) (ok := fun j => wr.heap.size ≤ j) (okp := fun _ => False) ?hr (ends_reps _ _) (fun _ h => h.elim) (Nat.le_refl _) (Below.refl _ _) (Nat.le_refl _) (by decide) ?_; (case hd => rfl); (case hg => rfl); (case hr => first | (go_simp; done) | (go_simp; rfl)); intro vm w15 HM15 hb15 hg15 hat15; obtain ⟨Am, cm, rfl, hcm, HMr⟩ := OwnRow.reads HM15.2; have HMr := Aside0.mk HMr; have HN15 := Aside0.mk (Kd.R_below HN.out hb15); have HP15 := Aside0.mk (Kd.R_below HP.out hb15); have XH15 := Aside0.mk (blk_below XH.out hb15); have BR15 := Aside0.mk (below_step BR.out hb15); clear hb15 hg15 hat15 HM15 hcm hn46 hca22) | ((with_reducible refine gate_builtin (b := .append) (xs := #[.tmp 70, .tmp 73]) rfl ?_); at_builtin; refine Kd.R_append_rows kN (w0 := w5) w5.heap.size rfl (.tmp 70) (.tmp 73) 22 56 (.agg #[.int .i64 0, .slice none 0 0]) 32 rfl Tryd.underlying22 infoND rfl (by decide) (by decide) (.slice A1 c.nodes.length c1) c.nodes ends Am ends.length cm (fun _ => True) (fun j => wr.heap.size ≤ j) rfl rfl HN15.out HMr.out (fun x cs h => kN.M_lower BR.out.size (kN.M_mono (fun j hj => hj.1) h)) HQN.out (fun _ _ => trivial) BR15.out BR15.out.size (by show (c.nodes.length + 2) * 32 ≤ _; omega) ?_; intro v16 w16 HN16 hb16 hg16 hat16; obtain ⟨A2, c2, rfl, hc2⟩ := R_slice_n HN16 (n := c.nodes.length + 2) (by rw [List.length_append]; rfl); have HN16 := Aside0.mk HN16; have BR16 := Aside0.mk hb16; have XH16 := Aside0.mk (blk_grown XH15.out hg16 (Kd.R_ne HN15.out XH15.out (by decide))); have HP16 := Aside0.mk (Kd.R_over HP15.out HN15.out (by decide) hg16); clear hb16 hg16 hat16) | ((with_reducible refine gate_store (t := 22) (p := 76) (v := .tmp 74) rfl ?_); refine store_cell_event rfl 22 76 (.tmp 74) rfl rfl gh 46 (.slice A2 (c.nodes.length + 2) c2) 31 (handCells c A cap B cb (.slice A1 c.nodes.length c1) (.slice P1 c.nodes.length p1)) XH16.out ?hr ?_; (case hr => (have hz_ : _ = some (.slice A1 c.nodes.length c1 : Value) := (blk_cell XH16.out 46).trans rfl; have hf_ := blk_frozen XH16.out 46; first | (go_simp; done) | (go_simp; rfl))); intro w17 XH17r G17; have XH17 : Aside0 (w17.heap[gh]? = some (.cells (handCells c A cap B cb (.slice A2 (c.nodes.length + 2) c2) (.slice P1 c.nodes.length p1)) 31 (0, 0))) := ⟨by have h := XH17r.out; rwa [hand_setN] at h⟩; have HN17 := Aside0.mk (R_off HN16.out XH16.out (by decide) G17.out); have HP17 := Aside0.mk (R_off HP16.out XH16.out (by decide) G17.out); have BR17 := Aside0.mk (below_row BR16.out GH.out G17.out); clear XH17r G17; have hn46 : w17.cell? ⟨gh, 46, none⟩ = some (.slice A2 (c.nodes.length + 2) c2) := (blk_cell XH17.out 46).trans rfl) | ((with_reducible refine gate_store (t := 22) (p := 86) (v := .tmp 83) rfl ?_); refine store_cell_event rfl 22 86 (.tmp 83) rfl rfl gh 22 (.slice A2 c.nodes.length c2) 31 (handCells c A cap B cb (.slice A2 (c.nodes.length + 2) c2) (.slice P1 c.nodes.length p1)) XH17.out ?hr ?_; (case hr => (have hz_ : _ = some (.slice A c.nodes.length cap : Value) := (blk_cell XH17.out 22).trans rfl; have hf_ := blk_frozen XH17.out 22; first | (go_simp; done) | (go_simp; rfl))); intro w18 XH18r G18; have XH18 : Aside0 (w18.heap[gh]? = some (.cells (handCells c A2 c2 B cb (.slice A2 (c.nodes.length + 2) c2) (.slice P1 c.nodes.length p1)) 31 (0, 0))) := ⟨by have h := XH18r.out; rwa [hand_setA] at h⟩; have HN18 := Aside0.mk (R_off HN17.out XH17.out (by decide) G18.out); have HP18 := Aside0.mk (R_off HP17.out XH17.out (by decide) G18.out); have BR18 := Aside0.mk (below_row BR17.out GH.out G18.out); clear XH18r G18 hn46) | fail)
      go_ret
      exact ⟨gh, A2, c2, B, cb, P1, p1, rfl, XH18.out, Kd.R_lower HN18.out BW5.out.size, Kd.R_below HTw.out BR18.out, Kd.R_lower HP18.out BW5.out.size, below_step BW5.out BR18.out⟩

end Go.Proofs.YtkcpeanimmjajaaDoor.Ring

