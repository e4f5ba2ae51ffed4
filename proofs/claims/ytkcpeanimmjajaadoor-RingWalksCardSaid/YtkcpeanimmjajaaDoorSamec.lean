import Derived.Test.YtkcpeanimmjajaaDoorSame
import Derived.ChangeKeysEq
namespace Go.Proofs.YtkcpeanimmjajaaDoor.Ring
open Go.RowKit Go.Proofs.YtkcpeanimmjajaaDoorW.PrintWords Go.Proofs.YtkcpeanimmjajaaDoorW.PrintLast Go.Proofs.YtkcpeanimmjajaaDoorW.PrintMore Go.Proofs.YtkcpeanimmjajaaDoor.PRingWalks
set_option linter.unusedVariables false
set_option linter.unusedSimpArgs false
theorem items_refl {P : Program} (w : World) (d : Nat) {e : TypeId} (k : IntKind) (xs : Array Value) (hp : P.plainKey e = true) (he : P.underlying e = some (.int k)) : ∀ is : List Nat, (∀ i ∈ is, ∃ a, xs[i]? = some (.int k a)) → (Op.eqItems (d + 1) e 1 xs xs is).run P w = .ok true w
  | [], _ => by simp [Op.eqItems]
  | i :: is, h => by
    obtain ⟨a, ha⟩ := h i List.mem_cons_self
    simp only [Op.eqItems, Sem.run_bind, Nat.mul_one, run_part_plain w hp ha, Result.andThen_ok, run_equalIn_int w d e k k a a he]
    simp only [beq_self_eq_true, Bool.not_true, Bool.false_eq_true, if_false, Sem.run_ite]
    exact items_refl w d k xs hp he is (fun j hj => h j (List.mem_cons_of_mem _ hj))
theorem vals_refl (c : Clu) (w : World) : (Op.equalIn 10000 88 (.agg (c.vals.map (Value.int .i64)).toArray) (.agg (c.vals.map (Value.int .i64)).toArray)).run Tryd.prog w = .ok true w := by
  have h0 : ∃ i, Tryd.prog.info? 3 = some i := Option.isSome_iff_exists.1 (by kernel_rfl)
  obtain ⟨i, hi⟩ := h0
  have hc : Tryd.prog.cellsOf 3 = 1 := by kernel_rfl
  rw [run_equalIn_array w 9999 _ _ Tryd.underlying88 hi, hc]
  refine items_refl w 9998 .i64 _ (by kernel_rfl) Tryd.underlying3 _ (fun j hj => ?_)
  have hj' : j < c.vals.length := List.mem_range.1 hj
  refine ⟨c.vals[j], ?_⟩
  rw [List.getElem?_toArray, List.getElem?_map, List.getElem?_eq_getElem hj']
  rfl
theorem same_quiet (l : List Int) (hl : l.length ≤ 17592186044416) (A : Option Addr) (ca : Nat) (B : Option Addr) (cb : Nat) (w : World) (hA : Kd.C (Kd.int .i64) w A l.length l) (hca : l.length ≤ ca) (hB : Kd.C (Kd.int .i64) w B l.length l) (hcb : l.length ≤ cb) :
    Calls Tryd.prog 17 #[.slice A l.length ca, .slice B l.length cb] w fun e w' => e = .returned (.bool true) ∧ ∃ n, w' = w.drewN n :=
  (sameInts_calls l hl A ca B cb w hA hca hB hcb).mono fun _ _ ⟨h, hd⟩ => ⟨h, hd.out⟩
def samec.T1 : Bool × List (List Nat × List Nat) := (true, [([], []), ([0], [0]), ([], []), ([2], [2]), ([1, 3], [1, 3]), ([4], [4]), ([5], [5]), ([6, 5, 5], [5, 6]), ([5], [5]), ([8, 7, 5], [5, 8]), ([7, 9, 5], [5, 7, 9]), ([5, 10], [5, 10]), ([11, 9], [11]), ([12], [12]), ([13, 12], [12, 13]), ([14, 12], [12, 14]), ([12], [12]), ([16, 12], [12, 16]), ([17, 12], [12, 17]), ([15, 18, 12], [12, 15, 18]), ([12, 19], [12, 19])])
def samec.B1 : List Nat := [0, 1, 0, 4, 15, 31, 63, 127, 63, 511, 1023, 2047, 4095, 8191, 16383, 32767, 8191, 73727, 204799, 524287, 1048575]
theorem samec.tab1 : rtab .any (opsOf Tryd.f30 1) = samec.T1 := by kernel_rfl
theorem samec.bits1 : waitsOk samec.T1.2 samec.B1 = true := by kernel_rfl
/-- The settings in a row. -/
def Clu.valsA (c : Clu) : Array Value := (c.vals.map (Value.int .i64)).toArray
set_option maxHeartbeats 8000000 in
set_option maxRecDepth 100000 in
theorem same_calls (c : Clu) (A : Option Addr) (ca : Nat) (B : Option Addr) (cb : Nat) (w : World) (HA : Kd.C kN w A c.nodes.length c.nodes) (HB : Kd.C kN w B c.nodes.length c.nodes) (hok : c.ok) :
    Calls Tryd.prog 30 #[.agg (c.cells A ca), .agg (c.cells B cb)] w fun e w' => e = .returned (.bool true) ∧ Below w.heap.size w w' := by
  have HRA := Aside0.mk HA
  have HRB := Aside0.mk HB
  clear HA HB
  go_enter Tryd.func30, Tryd.ntmps30
  go_wp2_with (first | ((with_reducible refine gate_dst (N := 2) rfl ?_); refine new_event ?hg (N := 2) ?hd (c.cells A ca) 24 ?hr ?_; (case hd => rfl); (case hg => rfl); (case hr => first | (go_simp; done) | (go_simp; rfl)); intro ga w1 GA XA0 B1) | ((with_reducible refine gate_dst (N := 3) rfl ?_); refine new_event ?hg (N := 3) ?hd (c.cells B cb) 24 ?hr ?_; (case hd => rfl); (case hg => rfl); (case hr => first | (go_simp; done) | (go_simp; rfl)); intro gb w2 GB XB B2))
  have BW := Aside0.mk (below_step B1.out B2.out)
  have XA := Aside0.mk (blk_below XA0.out B2.out)
  clear XA0 B1 B2
  refine start_ (n := 21) (S := fun w' => Below w.heap.size w w' ∧ w'.heap[ga]? = some (.cells (c.cells A ca) 24 (0, 0)) ∧ w'.heap[gb]? = some (.cells (c.cells B cb) 24 (0, 0))) (ds := []) #[false, false, false, false, false, false, false, false, false, false, false, false, false, false, false, false, false, false, false, false, false] (by kernel_rfl) rfl rfl ⟨below_drew1 BW.out, blk_drew XA.out, blk_drew XB.out⟩ (fun hHeld => ?_); refine with_tabW samec.tab1 samec.bits1 (fun HT_ HW_ => ?_)
  clear BW XA XB
  generalize w2.drew = w40 at hHeld ⊢
  refine pure_ (i := 0) (N := some 6) (v := ?_) (a' := ?_) #[true, false, false, false, false, false, false, false, false, false, false, false, false, false, false, false, false, false, false, false, false] rfl rfl (any_of HT_.out (by kernel_rfl)) (fun _ _ _ h => h) (Or.inl ⟨by rfl, ?_⟩) ?_ ?_
  rotate_left
  · intro w'
    go_simp
    with_reducible rfl
  rotate_left
  · simp only [Act.put, List.setIfInBounds_toArray, List.set_cons_zero, List.set_cons_succ, i64_w, i32_w]
    rfl
  refine pure_ (i := 2) (N := some 8) (v := ?_) (a' := ?_) #[true, false, true, false, false, false, false, false, false, false, false, false, false, false, false, false, false, false, false, false, false] rfl rfl (any_of HT_.out (by kernel_rfl)) (fun _ _ _ h => h) (Or.inl ⟨by rfl, ?_⟩) ?_ ?_
  rotate_left
  · intro w'
    go_simp
    with_reducible rfl
  rotate_left
  · simp only [Act.put, List.setIfInBounds_toArray, List.set_cons_zero, List.set_cons_succ, i64_w, i32_w]
    rfl
  refine take_ (i := 1) (N := some 7) (v := ?_) (a' := ?_) #[true, true, true, false, false, false, false, false, false, false, false, false, false, false, false, false, false, false, false, false, false] rfl rfl (take_ofW HT_.out HW_.out (by kernel_rfl)) (fun _ _ _ h => h) (Or.inl ⟨by rfl, ?_⟩) hHeld ?_ ?_
  rotate_left
  · rintro w' ⟨hS0, hS1, hS2⟩
    (have h1 : w'.cell? ⟨ga, 0, none⟩ = some (.string c.store) := (blk_cell hS1 0).trans rfl; go_simp; with_reducible rfl)
  rotate_left
  · simp only [Act.put, List.setIfInBounds_toArray, List.set_cons_zero, List.set_cons_succ, i64_w, i32_w]
    rfl
  refine take_ (i := 3) (N := some 9) (v := ?_) (a' := ?_) #[true, true, true, true, false, false, false, false, false, false, false, false, false, false, false, false, false, false, false, false, false] rfl rfl (take_ofW HT_.out HW_.out (by kernel_rfl)) (fun _ _ _ h => h) (Or.inl ⟨by rfl, ?_⟩) hHeld ?_ ?_
  rotate_left
  · rintro w' ⟨hS0, hS1, hS2⟩
    (have h1 : w'.cell? ⟨gb, 0, none⟩ = some (.string c.store) := (blk_cell hS2 0).trans rfl; go_simp; with_reducible rfl)
  rotate_left
  · simp only [Act.put, List.setIfInBounds_toArray, List.set_cons_zero, List.set_cons_succ, i64_w, i32_w]
    rfl
  refine pure_ (i := 4) (N := some 10) (v := ?_) (a' := ?_) #[true, true, true, true, true, false, false, false, false, false, false, false, false, false, false, false, false, false, false, false, false] rfl rfl (any_of HT_.out (by kernel_rfl)) (fun _ _ _ h => h) (Or.inl ⟨by rfl, ?_⟩) ?_ ?_
  rotate_left
  · intro w'
    go_simp
    with_reducible rfl
  rotate_left
  · simp only [Act.put, List.setIfInBounds_toArray, List.set_cons_zero, List.set_cons_succ, i64_w, i32_w]
    rfl
  refine pure_ (i := 5) (N := some 11) (v := ?_) (a' := ?_) #[true, true, true, true, true, true, false, false, false, false, false, false, false, false, false, false, false, false, false, false, false] rfl rfl (any_of HT_.out (by kernel_rfl)) (fun _ _ _ h => h) (Or.inl ⟨by rfl, ?_⟩) ?_ ?_
  rotate_left
  · intro w'
    go_simp
    with_reducible rfl
  rotate_left
  · simp only [Act.put, List.setIfInBounds_toArray, List.set_cons_zero, List.set_cons_succ, i64_w, i32_w]
    rfl
  refine take_ (i := 6) (N := some 12) (v := ?_) (a' := ?_) #[true, true, true, true, true, true, true, false, false, false, false, false, false, false, false, false, false, false, false, false, false] rfl rfl (take_ofW HT_.out HW_.out (by kernel_rfl)) (fun _ _ _ h => h) (Or.inl ⟨by rfl, ?_⟩) hHeld ?_ ?_
  rotate_left
  · rintro w' ⟨hS0, hS1, hS2⟩
    (refine exec_load_row 24 (.tmp 2) ?_ ga ?_ (c.cells A ca) 24 hS1 _ Tryd.underlying24 ?_ infoClu; all_goals rfl)
  rotate_left
  · simp only [Act.put, List.setIfInBounds_toArray, List.set_cons_zero, List.set_cons_succ, i64_w, i32_w]
    rfl
  refine take_ (i := 8) (N := some 14) (v := ?_) (a' := ?_) #[true, true, true, true, true, true, true, false, true, false, false, false, false, false, false, false, false, false, false, false, false] rfl rfl (take_ofW HT_.out HW_.out (by kernel_rfl)) (fun _ _ _ h => h) (Or.inl ⟨by rfl, ?_⟩) hHeld ?_ ?_
  rotate_left
  · rintro w' ⟨hS0, hS1, hS2⟩
    (refine exec_load_row 24 (.tmp 3) ?_ gb ?_ (c.cells B cb) 24 hS2 _ Tryd.underlying24 ?_ infoClu; all_goals rfl)
  rotate_left
  · simp only [Act.put, List.setIfInBounds_toArray, List.set_cons_zero, List.set_cons_succ, i64_w, i32_w]
    rfl
  refine one_ (i := 7) (N := some 13) #[true, true, true, true, true, true, true, true, true, false, false, false, false, false, false, false, false, false, false, false, false] rfl rfl (one_of HT_.out (by kernel_rfl)) (by decide) (fun K hK => ?_)
  refine goes_ Tryd.func58 (by kernel_rfl) rfl #[.agg (c.cells A ca)] (by rfl) rfl rfl (by (try simp only [List.map_toArray, List.map_cons, List.map_nil]); first | done | rfl) ?_
  refine (values_calls c A ca _).mono ?_
  rintro e w5 ⟨rfl, hb5⟩
  refine ⟨_, rfl, ?_⟩
  refine hK.out _ _ ⟨below_step hHeld.1 hb5, blk_below hHeld.2.1 hb5, blk_below hHeld.2.2 hb5⟩ (fun hHeld => ?_)
  clear hK K
  refine norm_ (a' := ?_) ?_ ?_
  rotate_left
  · show Act.put _ (some 13) _ = _
    simp only [Act.put, List.setIfInBounds_toArray, List.set_cons_zero, List.set_cons_succ, i64_w, i32_w]
    rfl
  refine one_ (i := 9) (N := some 15) #[true, true, true, true, true, true, true, true, true, true, false, false, false, false, false, false, false, false, false, false, false] rfl rfl (one_of HT_.out (by kernel_rfl)) (by decide) (fun K hK => ?_)
  refine goes_ Tryd.func58 (by kernel_rfl) rfl #[.agg (c.cells B cb)] (by rfl) rfl rfl (by (try simp only [List.map_toArray, List.map_cons, List.map_nil]); first | done | rfl) ?_
  refine (values_calls c B cb _).mono ?_
  rintro e w5 ⟨rfl, hb5⟩
  refine ⟨_, rfl, ?_⟩
  refine hK.out _ _ ⟨below_step hHeld.1 hb5, blk_below hHeld.2.1 hb5, blk_below hHeld.2.2 hb5⟩ (fun hHeld => ?_)
  clear hK K
  refine norm_ (a' := ?_) ?_ ?_
  rotate_left
  · show Act.put _ (some 15) _ = _
    simp only [Act.put, List.setIfInBounds_toArray, List.set_cons_zero, List.set_cons_succ, i64_w, i32_w]
    rfl
  refine pure_ (i := 10) (N := some 16) (v := ?_) (a' := ?_) #[true, true, true, true, true, true, true, true, true, true, true, false, false, false, false, false, false, false, false, false, false] rfl rfl (any_of HT_.out (by kernel_rfl)) (fun _ _ _ h => h) (Or.inl ⟨by rfl, ?_⟩) ?_ ?_
  rotate_left
  · intro w'
    go_simp; simp only [vals_refl c w', Result.andThen_ok, Bool.not_true]
    with_reducible rfl
  rotate_left
  · simp only [Act.put, List.setIfInBounds_toArray, List.set_cons_zero, List.set_cons_succ, i64_w, i32_w]
    rfl
  refine pure_ (i := 11) (N := some 17) (v := ?_) (a' := ?_) #[true, true, true, true, true, true, true, true, true, true, true, true, false, false, false, false, false, false, false, false, false] rfl rfl (any_of HT_.out (by kernel_rfl)) (fun _ _ _ h => h) (Or.inl ⟨by rfl, ?_⟩) ?_ ?_
  rotate_left
  · intro w'
    go_simp
    with_reducible rfl
  rotate_left
  · simp only [Act.put, List.setIfInBounds_toArray, List.set_cons_zero, List.set_cons_succ, i64_w, i32_w]
    rfl
  refine pure_ (i := 12) (N := some 18) (v := ?_) (a' := ?_) #[true, true, true, true, true, true, true, true, true, true, true, true, true, false, false, false, false, false, false, false, false] rfl rfl (any_of HT_.out (by kernel_rfl)) (fun _ _ _ h => h) (Or.inl ⟨by rfl, ?_⟩) ?_ ?_
  rotate_left
  · intro w'
    go_simp
    with_reducible rfl
  rotate_left
  · simp only [Act.put, List.setIfInBounds_toArray, List.set_cons_zero, List.set_cons_succ, i64_w, i32_w]
    rfl
  refine pure_ (i := 13) (N := some 19) (v := ?_) (a' := ?_) #[true, true, true, true, true, true, true, true, true, true, true, true, true, true, false, false, false, false, false, false, false] rfl rfl (any_of HT_.out (by kernel_rfl)) (fun _ _ _ h => h) (Or.inl ⟨by rfl, ?_⟩) ?_ ?_
  rotate_left
  · intro w'
    go_simp
    with_reducible rfl
  rotate_left
  · simp only [Act.put, List.setIfInBounds_toArray, List.set_cons_zero, List.set_cons_succ, i64_w, i32_w]
    rfl
  refine pure_ (i := 16) (N := some 22) (v := ?_) (a' := ?_) #[true, true, true, true, true, true, true, true, true, true, true, true, true, true, false, false, true, false, false, false, false] rfl rfl (any_of HT_.out (by kernel_rfl)) (fun _ _ _ h => h) (Or.inl ⟨by rfl, ?_⟩) ?_ ?_
  rotate_left
  · intro w'
    go_simp
    with_reducible rfl
  rotate_left
  · simp only [Act.put, List.setIfInBounds_toArray, List.set_cons_zero, List.set_cons_succ, i64_w, i32_w]
    rfl
  refine take_ (i := 14) (N := some 20) (v := ?_) (a' := ?_) #[true, true, true, true, true, true, true, true, true, true, true, true, true, true, true, false, true, false, false, false, false] rfl rfl (take_ofW HT_.out HW_.out (by kernel_rfl)) (fun _ _ _ h => h) (Or.inl ⟨by rfl, ?_⟩) hHeld ?_ ?_
  rotate_left
  · rintro w' ⟨hS0, hS1, hS2⟩
    (have h1 : w'.cell? ⟨ga, 22, none⟩ = some (.slice A c.nodes.length ca) := (blk_cell hS1 22).trans rfl; go_simp; with_reducible rfl)
  rotate_left
  · simp only [Act.put, List.setIfInBounds_toArray, List.set_cons_zero, List.set_cons_succ, i64_w, i32_w]
    rfl
  refine pure_ (i := 15) (N := some 21) (v := ?_) (a' := ?_) #[true, true, true, true, true, true, true, true, true, true, true, true, true, true, true, true, true, false, false, false, false] rfl rfl (any_of HT_.out (by kernel_rfl)) (fun _ _ _ h => h) (Or.inl ⟨by rfl, ?_⟩) ?_ ?_
  rotate_left
  · intro w'
    go_simp
    with_reducible rfl
  rotate_left
  · simp only [Act.put, List.setIfInBounds_toArray, List.set_cons_zero, List.set_cons_succ, i64_w, i32_w]
    rfl
  refine take_ (i := 17) (N := some 23) (v := ?_) (a' := ?_) #[true, true, true, true, true, true, true, true, true, true, true, true, true, true, true, true, true, true, false, false, false] rfl rfl (take_ofW HT_.out HW_.out (by kernel_rfl)) (fun _ _ _ h => h) (Or.inl ⟨by rfl, ?_⟩) hHeld ?_ ?_
  rotate_left
  · rintro w' ⟨hS0, hS1, hS2⟩
    (have h1 : w'.cell? ⟨gb, 22, none⟩ = some (.slice B c.nodes.length cb) := (blk_cell hS2 22).trans rfl; go_simp; with_reducible rfl)
  rotate_left
  · simp only [Act.put, List.setIfInBounds_toArray, List.set_cons_zero, List.set_cons_succ, i64_w, i32_w]
    rfl
  refine pure_ (i := 18) (N := some 24) (v := ?_) (a' := ?_) #[true, true, true, true, true, true, true, true, true, true, true, true, true, true, true, true, true, true, true, false, false] rfl rfl (any_of HT_.out (by kernel_rfl)) (fun _ _ _ h => h) (Or.inl ⟨by rfl, ?_⟩) ?_ ?_
  rotate_left
  · intro w'
    go_simp
    with_reducible rfl
  rotate_left
  · simp only [Act.put, List.setIfInBounds_toArray, List.set_cons_zero, List.set_cons_succ, i64_w, i32_w]
    rfl
  refine pure_ (i := 19) (N := some 25) (v := ?_) (a' := ?_) #[true, true, true, true, true, true, true, true, true, true, true, true, true, true, true, true, true, true, true, true, false] rfl rfl (any_of HT_.out (by kernel_rfl)) (fun _ _ _ h => h) (Or.inl ⟨by rfl, ?_⟩) ?_ ?_
  rotate_left
  · intro w'
    go_simp
    with_reducible rfl
  rotate_left
  · simp only [Act.put, List.setIfInBounds_toArray, List.set_cons_zero, List.set_cons_succ, i64_w, i32_w]
    rfl
  refine pure_ (i := 20) (N := some 26) (v := ?_) (a' := ?_) #[true, true, true, true, true, true, true, true, true, true, true, true, true, true, true, true, true, true, true, true, true] rfl rfl (any_of HT_.out (by kernel_rfl)) (fun _ _ _ h => h) (Or.inl ⟨by rfl, ?_⟩) ?_ ?_
  rotate_left
  · intro w'
    go_simp
    with_reducible rfl
  rotate_left
  · simp only [Act.put, List.setIfInBounds_toArray, List.set_cons_zero, List.set_cons_succ, i64_w, i32_w]
    rfl
  refine done_ (done_of HT_.out (by kernel_rfl)) ?_
  obtain ⟨BW, XA, XB⟩ := hHeld
  have BW := Aside0.mk BW
  have XA := Aside0.mk XA
  have XB := Aside0.mk XB
  have hc22 : w5.cell? ⟨ga, 22, none⟩ = some (.slice A c.nodes.length ca) := (blk_cell XA.out 22).trans rfl
  go_wp2_with fail
  clear hc22
  go_loopw [5] (fun v wr => ∃ k : Nat, k ≤ c.nodes.length ∧ v = .int .i64 k ∧ Aside0 (Below w.heap.size w wr) ∧ Aside0 (wr.heap[ga]? = some (.cells (c.cells A ca) 24 (0, 0))) ∧ Aside0 (wr.heap[gb]? = some (.cells (c.cells B cb) 24 (0, 0)))) (fun v _ => c.nodes.length - (intOf v).toNat)
  case atStart => exact ⟨0, Nat.zero_le _, rfl, BW, XA, XB⟩
  case round =>
    clear BW XA XB
    obtain ⟨k, hk, rfl, BW, XA, XB⟩ := hrel
    by_cases hlt : k < c.nodes.length
    · obtain ⟨adA, A1, c1, nd, rfl, hnd, hz0, hz1, hl1, hC1⟩ := node_at (Kd.C_below HRA.out BW.out) k hlt
      obtain ⟨adB, B1, c2, nd2, rfl, hnd2, hy0, hy1, hl2, hC2⟩ := node_at (Kd.C_below HRB.out BW.out) k hlt
      rw [hnd] at hnd2
      obtain rfl := Option.some.inj hnd2
      clear hnd2
      have hnl := hok.2.2 nd (List.mem_of_getElem? hnd)
      clear hnd
      have HC1 := Aside0.mk hC1
      have HC2 := Aside0.mk hC2
      clear hC1 hC2
      have hca22 : wr.cell? ⟨ga, 22, none⟩ = some (.slice (some adA) c.nodes.length ca) := (blk_cell XA.out 22).trans rfl
      have hcb22 : wr.cell? ⟨gb, 22, none⟩ = some (.slice (some adB) c.nodes.length cb) := (blk_cell XB.out 22).trans rfl
      have b2 : (k : Int) < (c.nodes.length : Int) := by omega
      have hn0 := hok.2.1
      go_wp2_with fail
      go_quiet ((go_at_call 17; exact Calls.quiet_of (same_quiet nd.f1 hnl _ _ _ _ _ (Kd.C_below HC1.out (pw_below_drewN (Below.refl _ _) _)) hl1 (Kd.C_below HC2.out (pw_below_drewN (Below.refl _ _) _)) hl2)))
      go_wp2_with fail
      go_roundw
      case rel => exact ⟨k + 1, by omega, by go_num, ⟨pw_below_drewN BW.out _⟩, ⟨XA.out⟩, ⟨XB.out⟩⟩
      case measure => simp [intOf]; omega
    · have hca22 : wr.cell? ⟨ga, 22, none⟩ = some (.slice A c.nodes.length ca) := (blk_cell XA.out 22).trans rfl
      go_wp2_with fail
      go_ret
      exact ⟨rfl, BW.out⟩
end Go.Proofs.YtkcpeanimmjajaaDoor.Ring
