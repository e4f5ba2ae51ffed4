import Derived.Test.YtkcpeanimmjajaaDoorLeft
import Derived.Test.YtkcpeanimmjajaaDoorCheck
import Derived.Test.YtkcpeanimmjajaaDoorRcheck
namespace Go.Proofs.YtkcpeanimmjajaaDoor.Ring
open Go.RowKit Go.Proofs.YtkcpeanimmjajaaDoorW.PrintWords Go.Proofs.YtkcpeanimmjajaaDoorW.PrintLast Go.Proofs.YtkcpeanimmjajaaDoorW.PrintMore Go.Proofs.YtkcpeanimmjajaaDoor.PRingWalks
set_option linter.unusedVariables false
set_option linter.unusedSimpArgs false

theorem load_mid_at {P : Program} {ops : Array Oper} {rest : List Oper} {o : Oper} {a : Act} {W : World} {Q : Exit → Act → World → Prop} (hgd : o.guard = none) (ty : TypeId) (x : Operand) (ho : o.op = .load ty x)
    (b off : Nat) (hx : a.eval x = .pointer (some ⟨b, off, none⟩)) (cs : Array Value) (d : TypeDesc) (hc : W.rangeAt b off cs.toList)
    (hu : P.underlying ty = some d) (hd : d.isRow = true) (hi : (P.info? ty).map (·.size) = some cs.toList.length)
    (h : wpList P ops Q rest (a.put o.dst (.agg cs)) W) : wpList P ops Q (o :: rest) a W :=
  wpList_load_mid hgd ty x ho b off hx cs.toList d hc hu hd hi h

/-- What is handed in, in a later world. -/
structure Handed (c : Clu) (g : Nat) (w : World) : Prop where mk ::
  out : ∃ A ca B cb P cp, w.heap[g]? = some (.cells (handCells c A ca B cb (.slice A (c.nodes.length + 2) ca) (.slice P c.nodes.length cp)) 31 (0, 0)) ∧
    Kd.C kN w A (c.nodes.length + 2) (c.nodes ++ ends) ∧ c.nodes.length + 2 ≤ ca ∧ Kd.C kN w B c.nodes.length c.nodes ∧ c.nodes.length ≤ cb ∧ Kd.C kP w P c.nodes.length (c.nodes.map marksOf) ∧ c.nodes.length ≤ cp
theorem Handed.below {c : Clu} {g : Nat} {w w1 : World} (h : Handed c g w) (hb : Below w.heap.size w w1) : Handed c g w1 := by
  obtain ⟨A, ca, B, cb, P, cp, h1, h2, h3, h4, h5, h6, h7⟩ := h.out
  exact ⟨A, ca, B, cb, P, cp, blk_below h1 hb, Kd.C_below h2 hb, h3, Kd.C_below h4 hb, h5, Kd.C_below h6 hb, h7⟩
theorem Handed.at_ {c : Clu} {g : Nat} {w : World} (h : Handed c g w) : ∃ A ca B cb P cp, w.heap[g]? = some (.cells (handCells c A ca B cb (.slice A (c.nodes.length + 2) ca) (.slice P c.nodes.length cp)) 31 (0, 0)) ∧ Kd.C kN w A c.nodes.length c.nodes ∧ c.nodes.length ≤ ca := by
  obtain ⟨A, ca, B, cb, P, cp, h1, h2, h3, -⟩ := h.out
  refine ⟨A, ca, B, cb, P, cp, h1, ?_, by omega⟩
  have h := C_take h2 (Nat.le_add_right c.nodes.length 2)
  rwa [List.take_left' rfl] at h
theorem hand_gives (c : Clu) (A : Option Addr) (cap : Nat) (w : World) (HA : Kd.C kN w A c.nodes.length c.nodes) (hfit : c.fit) :
    Calls Tryd.prog 10 #[.agg (c.cells A cap)] w fun e w' => ∃ g, e = .returned (.pointer (some ⟨g, 0, none⟩)) ∧ Handed c g w' ∧ Below w.heap.size w w' := by
  refine (hand_calls c A cap w HA hfit).mono fun e w' ⟨g, A1, ca, B, cb, P, cp, he, hX, hN, hB, hP, hb⟩ => ?_
  obtain ⟨h1, h2, h3⟩ := Kd.R_reads' hN
  obtain ⟨h4, h5, h6⟩ := Kd.R_reads' hB
  obtain ⟨h7, h8, h9⟩ := Kd.R_reads' hP
  rw [← h1] at h3
  rw [← h7] at h9
  exact ⟨g, he, ⟨A1, ca, B, cb, P, cp, hX, h3, h2, h6, h5, h9, h8⟩, hb⟩
theorem left_gives (c : Clu) (g : Nat) (w : World) (h : Handed c g w) (hfit : c.fit) :
    Calls Tryd.prog 14 #[.pointer (some ⟨g, 0, none⟩)] w fun e w' => e = .returned (.bool true) ∧ Below w.heap.size w w' := by
  obtain ⟨A, ca, B, cb, P, cp, h1, h2, h3, h4, h5, h6, h7⟩ := h.out
  exact left_calls c g A ca B cb P cp w h1 h2 h3 h4 h5 h6 h7 hfit
theorem num_calls (v : Int) (w : World) : Calls Tryd.prog 12 #[.int .i64 v] w fun e w' => e = .returned (.int .i64 v) ∧ Below w.heap.size w w' :=
  (granarylaw6_num.calls v v w rfl).mono fun _ _ ⟨h, hd⟩ => ⟨h, hd.below⟩

def lawc.T3 : Bool × List (List Nat × List Nat) := (true, [([], []), ([0], [0]), ([], []), ([2, 1], [2]), ([1, 3], [1, 3]), ([4, 3], [4]), ([5], [5]), ([6, 5, 5], [5, 6]), ([5, 7], [5, 7]), ([8, 7, 0, 1, 2, 3, 4, 5, 6, 7, 8], [8])])
def lawc.B3 : List Nat := [0, 1, 0, 7, 15, 31, 63, 127, 255, 511]
theorem lawc.tab3 : rtab .any (opsOf Tryd.f3 3) = lawc.T3 := by kernel_rfl
theorem lawc.bits3 : waitsOk lawc.T3.2 lawc.B3 = true := by kernel_rfl
set_option maxHeartbeats 4000000 in
set_option maxRecDepth 100000 in
theorem checks_walk (c : Clu) (A : Option Addr) (cap : Nat) (w : World) (HA : Kd.C kN w A c.nodes.length c.nodes) (hfit : c.fit) (hG : Great w) :
    Calls Tryd.prog 3 #[.agg (c.cells A cap)] w fun e w' => e = .returned (.bool true) ∧ Below w.heap.size w w' := by
  have HRA := Aside0.mk HA
  have HG := Aside0.mk hG
  clear HA hG
  go_enter Tryd.func3, Tryd.ntmps3
  go_wp2_with (first | ((with_reducible refine gate_dst (N := 1) rfl ?_); refine new_event ?hg (N := 1) ?hd (c.cells A cap) 24 ?hr ?_; (case hd => rfl); (case hg => rfl); (case hr => first | (go_simp; done) | (go_simp; rfl)); intro ga w1 GA XA B1) | ((with_reducible refine gate_dst (N := 5) rfl ?_); refine wpList_load_row rfl 24 (.tmp 1) rfl ga rfl 24 (c.cells A cap) (0, 0) _ XA.out Tryd.underlying24 rfl (by kernel_rfl) ?_))
  go_at_call 10
  refine (hand_gives c A cap w1 (Kd.C_below HRA.out B1.out) hfit).mono ?_
  rintro e w2 ⟨gh, rfl, hH, hb2⟩
  have HH := Aside0.mk hH
  have BW := Aside0.mk (below_step B1.out hb2)
  have XA2 := Aside0.mk (blk_below XA.out hb2)
  obtain ⟨A2, c2, B2, d2, P2, p2, hX2, hC2, hc2⟩ := hH.at_
  have XH := Aside0.mk hX2
  clear hH hb2 hX2
  go_wp2_with (first | ((with_reducible refine gate_dst (N := 10) rfl ?_); refine load_mid_at rfl 24 (.tmp 9) rfl gh 0 rfl (c.cells A2 c2) _ (hand_range0 XH.out) Tryd.underlying24 rfl infoClu ?_) | fail)
  go_at_call 11
  refine (check_calls c A2 c2 w2 hC2 hfit.ok).mono ?_
  rintro e w3 ⟨rfl, hb3⟩
  have BX := Aside0.mk hb3
  clear hb3 hC2 hc2
  go_wp2_with fail
  refine start_ (n := 10) (S := fun w' => Below w2.heap.size w2 w') (ds := []) #[false, false, false, false, false, false, false, false, false, false] (by kernel_rfl) rfl rfl (below_drew1 BX.out) (fun hHeld => ?_); refine with_tabW lawc.tab3 lawc.bits3 (fun HT_ HW_ => ?_)
  generalize w3.drew = w40 at hHeld ⊢
  refine pure_ (i := 0) (N := some 12) (v := ?_) (a' := ?_) #[true, false, false, false, false, false, false, false, false, false] rfl rfl (any_of HT_.out (by kernel_rfl)) (fun _ _ _ h => h) (Or.inl ⟨by rfl, ?_⟩) ?_ ?_
  rotate_left
  · intro w'
    go_simp
    with_reducible rfl
  rotate_left
  · simp only [Act.put, List.setIfInBounds_toArray, List.set_cons_zero, List.set_cons_succ, i64_w, i32_w]
    rfl
  refine take_ (i := 2) (N := some 14) (v := ?_) (a' := ?_) #[true, false, true, false, false, false, false, false, false, false] rfl rfl (take_ofW HT_.out HW_.out (by kernel_rfl)) (fun _ _ _ h => h) (Or.inl ⟨by rfl, ?_⟩) hHeld ?_ ?_
  rotate_left
  · rintro w' hS0
    (refine exec_load_row 24 (.tmp 1) ?_ ga ?_ (c.cells A cap) 24 (blk_below XA2.out hS0) _ Tryd.underlying24 ?_ infoClu; all_goals rfl)
  rotate_left
  · simp only [Act.put, List.setIfInBounds_toArray, List.set_cons_zero, List.set_cons_succ, i64_w, i32_w]
    rfl
  refine one_ (i := 1) (N := some 13) #[true, true, true, false, false, false, false, false, false, false] rfl rfl (one_of HT_.out (by kernel_rfl)) (by decide) (fun K hK => ?_)
  refine goes_ Tryd.func12 (by kernel_rfl) rfl #[.int .i64 (checkN c)] (by rfl) rfl rfl (by (try simp only [List.map_toArray, List.map_cons, List.map_nil]); first | done | rfl) ?_
  refine (num_calls (checkN c) _).mono ?_
  rintro e w5 ⟨rfl, hb5⟩
  refine ⟨_, rfl, ?_⟩
  refine hK.out _ _ (below_step hHeld hb5) (fun hHeld => ?_)
  clear hK K
  refine norm_ (a' := ?_) ?_ ?_
  rotate_left
  · show Act.put _ (some 13) _ = _
    simp only [Act.put, List.setIfInBounds_toArray, List.set_cons_zero, List.set_cons_succ, i64_w, i32_w]
    rfl
  refine one_ (i := 3) (N := some 15) #[true, true, true, true, false, false, false, false, false, false] rfl rfl (one_of HT_.out (by kernel_rfl)) (by decide) (fun K hK => ?_)
  refine goes_ Tryd.func13 (by kernel_rfl) rfl #[.agg (c.cells A cap)] (by rfl) rfl rfl (by (try simp only [List.map_toArray, List.map_cons, List.map_nil]); first | done | rfl) ?_
  refine (rcheck_calls c A cap _ (Kd.C_below HRA.out (below_step BW.out hHeld)) hfit.ok (HG.out.below (below_step BW.out hHeld))).mono ?_
  rintro e w6 ⟨rfl, hb6⟩
  refine ⟨_, rfl, ?_⟩
  refine hK.out _ _ (below_step hHeld hb6) (fun hHeld => ?_)
  clear hK K
  refine norm_ (a' := ?_) ?_ ?_
  rotate_left
  · show Act.put _ (some 15) _ = _
    simp only [Act.put, List.setIfInBounds_toArray, List.set_cons_zero, List.set_cons_succ, i64_w, i32_w]
    rfl
  refine pure_ (i := 4) (N := some 16) (v := ?_) (a' := ?_) #[true, true, true, true, true, false, false, false, false, false] rfl rfl (any_of HT_.out (by kernel_rfl)) (fun _ _ _ h => h) (Or.inl ⟨by rfl, ?_⟩) ?_ ?_
  rotate_left
  · intro w'
    go_simp
    with_reducible rfl
  rotate_left
  · simp only [Act.put, List.setIfInBounds_toArray, List.set_cons_zero, List.set_cons_succ, i64_w, i32_w]
    rfl
  refine pure_ (i := 5) (N := some 17) (v := ?_) (a' := ?_) #[true, true, true, true, true, true, false, false, false, false] rfl rfl (any_of HT_.out (by kernel_rfl)) (fun _ _ _ h => h) (Or.inl ⟨by rfl, ?_⟩) ?_ ?_
  rotate_left
  · intro w'
    go_simp
    with_reducible rfl
  rotate_left
  · simp only [Act.put, List.setIfInBounds_toArray, List.set_cons_zero, List.set_cons_succ, i64_w, i32_w]
    rfl
  refine pure_ (i := 6) (N := some 18) (v := ?_) (a' := ?_) #[true, true, true, true, true, true, true, false, false, false] rfl rfl (any_of HT_.out (by kernel_rfl)) (fun _ _ _ h => h) (Or.inl ⟨by rfl, ?_⟩) ?_ ?_
  rotate_left
  · intro w'
    go_simp
    with_reducible rfl
  rotate_left
  · simp only [Act.put, List.setIfInBounds_toArray, List.set_cons_zero, List.set_cons_succ, i64_w, i32_w]
    rfl
  refine one_ (i := 7) (N := some 19) #[true, true, true, true, true, true, true, true, false, false] rfl rfl (one_of HT_.out (by kernel_rfl)) (by decide) (fun K hK => ?_)
  refine goes_ Tryd.func14 (by kernel_rfl) rfl #[.pointer (some ⟨gh, 0, none⟩)] (by rfl) rfl rfl (by (try simp only [List.map_toArray, List.map_cons, List.map_nil]); first | done | rfl) ?_
  refine (left_gives c gh _ (HH.out.below hHeld) hfit).mono ?_
  rintro e w7 ⟨rfl, hb7⟩
  refine ⟨_, rfl, ?_⟩
  refine hK.out _ _ (below_step hHeld hb7) (fun hHeld => ?_)
  clear hK K
  refine norm_ (a' := ?_) ?_ ?_
  rotate_left
  · show Act.put _ (some 19) _ = _
    simp only [Act.put, List.setIfInBounds_toArray, List.set_cons_zero, List.set_cons_succ, i64_w, i32_w]
    rfl
  refine pure_ (i := 8) (N := some 20) (v := ?_) (a' := ?_) #[true, true, true, true, true, true, true, true, true, false] rfl rfl (any_of HT_.out (by kernel_rfl)) (fun _ _ _ h => h) (Or.inl ⟨by rfl, ?_⟩) ?_ ?_
  rotate_left
  · intro w'
    go_simp
    with_reducible rfl
  rotate_left
  · simp only [Act.put, List.setIfInBounds_toArray, List.set_cons_zero, List.set_cons_succ, i64_w, i32_w]
    rfl
  refine pure_ (i := 9) (N := some 2) (v := ?_) (a' := ?_) #[true, true, true, true, true, true, true, true, true, true] rfl rfl (any_of HT_.out (by kernel_rfl)) (fun _ _ _ h => h) (Or.inl ⟨by rfl, ?_⟩) ?_ ?_
  rotate_left
  · intro w'
    go_simp
    with_reducible rfl
  rotate_left
  · simp only [Act.put, List.setIfInBounds_toArray, List.set_cons_zero, List.set_cons_succ, i64_w, i32_w]
    rfl
  refine done_ (done_of HT_.out (by kernel_rfl)) ?_
  clear HT_ HW_
  go_wp2_with fail
  go_ret
  exact ⟨rfl, below_step BW.out hHeld⟩
end Go.Proofs.YtkcpeanimmjajaaDoor.Ring
