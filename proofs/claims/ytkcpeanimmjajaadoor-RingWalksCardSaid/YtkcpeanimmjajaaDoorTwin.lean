import Derived.Test.YtkcpeanimmjajaaDoorBase
import Derived.Deep.RegionHeld3
namespace Go.Proofs.YtkcpeanimmjajaaDoor.Ring
open Go.RowKit Go.Proofs.YtkcpeanimmjajaaDoorW.PrintWords Go.Proofs.YtkcpeanimmjajaaDoorW.PrintLast Go.Proofs.YtkcpeanimmjajaaDoorW.PrintMore Go.Proofs.YtkcpeanimmjajaaDoor.PRingWalks
set_option linter.unusedVariables false
set_option linter.unusedSimpArgs false

def zeroClu : Clu := ⟨ByteArray.empty, 0, 0, 0, 0, 0, 0, 0, 0, 0, 0, 0, 0, 0, 0, 0, 0, 0, 0, 0, 0, 0, []⟩
theorem infoND : (Tryd.prog.info? 56).map (fun i => (i.zero, i.size, i.bytes)) = some (some (.agg #[.int .i64 0, .slice none 0 0]), 2, 32) := by kernel_rfl
theorem infoInt : (Tryd.prog.info? 3).map (fun i => (i.zero, i.size, i.bytes)) = some (some (.int .i64 0), 1, 8) := by kernel_rfl
/-- A definition anew: its nodes lie in memory of the call's own. -/
def TwinPost (c : Clu) (w : World) (e : Ending) (w' : World) : Prop :=
  ∃ A cap, e = .returned (.agg (c.cells A cap)) ∧ Kd.R kN 56 w' w.heap.size (fun _ => True) (.slice A c.nodes.length cap) c.nodes ∧ Below w.heap.size w w'

theorem Clu.cells_all (c : Clu) (A : Option Addr) (cap : Nat) : (c.cells A cap).all (·.oneCell') = true := by
  unfold Clu.cells
  simp [Value.oneCell']
theorem cells_set (c : Clu) (A B : Option Addr) (cap cb : Nat) : (c.cells A cap).setIfInBounds 22 (.slice B c.nodes.length cb) = c.cells B cb := rfl

def twin.T5 : Bool × List (List Nat × List Nat) := (true, [([], []), ([], []), ([1], [1]), ([], []), ([2, 3], [2, 3]), ([4], [4]), ([5], [5]), ([], []), ([7], [7]), ([], []), ([8, 9], [8, 9]), ([10], [10]), ([11], [11]), ([12], [12]), ([6, 13], [6, 13]), ([14], [14]), ([0, 15, 13], [0, 15]), ([16, 16, 0, 1, 2, 3, 4, 5, 6, 7, 8, 9, 10, 11, 12, 13, 14, 15, 16], [0, 16])])
def twin.B5 : List Nat := [0, 0, 2, 0, 14, 30, 62, 0, 128, 0, 896, 1920, 3968, 8064, 16382, 32766, 65535, 131071]
theorem twin.tab5 : rtab .any (opsOf Tryd.f23 5) = twin.T5 := by kernel_rfl
theorem twin.bits5 : waitsOk twin.T5.2 twin.B5 = true := by kernel_rfl
set_option maxHeartbeats 8000000 in
set_option maxRecDepth 100000 in
theorem twin_calls (c : Clu) (A : Option Addr) (cap : Nat) (w : World) (HA : Kd.C kN w A c.nodes.length c.nodes) (hok : c.ok) :
    Calls Tryd.prog 23 #[.agg (c.cells A cap)] w fun e w' => TwinPost c w e w' := by
  have HRA := Aside0.mk HA
  clear HA
  go_enter Tryd.func23, Tryd.ntmps23
  go_wp2_with (first | ((with_reducible refine gate_dst (N := 1) rfl ?_); refine new_event ?hg (N := 1) ?hd (c.cells A cap) 24 ?hr ?_; (case hd => rfl); (case hg => rfl); (case hr => first | (go_simp; done) | (go_simp; rfl)); intro ga w1 GA XA0 B1) | ((with_reducible refine gate_dst (N := 2) rfl ?_); refine new_event ?hg (N := 2) ?hd (zeroClu.cells none 0) 24 ?hr ?_; (case hd => rfl); (case hg => rfl); (case hr => first | (go_simp; done) | (go_simp; rfl)); intro gr w2 GR XR B2))
  have BW := Aside0.mk (below_step B1.out B2.out)
  have XA := Aside0.mk (blk_below XA0.out B2.out)
  have hgr : ga < gr := Nat.lt_of_lt_of_le (blk_lt XA0.out) GR.out
  have Hne := Aside0.mk hgr
  clear XA0 hgr
  go_loopw [3, 4] (fun v i wr => ∃ k : Nat, k ≤ c.nodes.length ∧ i = .int .i64 k ∧ Aside0 (Kd.R kN 56 wr w2.heap.size (fun _ => True) v (c.nodes.take k)) ∧ Aside0 (Below w2.heap.size w2 wr)) (fun _ i _ => c.nodes.length - (intOf i).toNat)
  case atStart => exact ⟨0, Nat.zero_le _, rfl, ⟨Kd.R_nil _ _ _ _ _⟩, ⟨Below.refl _ _⟩⟩
  case round =>
    obtain ⟨k, hk, rfl, HO, BR⟩ := hrel
    have hn0 := hok.2.1
    have XAr := Aside0.mk (blk_below XA.out BR.out)
    by_cases hlt : k < c.nodes.length
    · obtain ⟨adA, A1, c1, nd, rfl, hnd, hz0, hz1, hl1, hC1⟩ := node_at HRA.out k hlt
      have hnl := hok.2.2 nd (List.mem_of_getElem? hnd)
      have HTk : Aside0 (c.nodes.take (k + 1) = c.nodes.take k ++ [nd]) := ⟨by
        obtain ⟨h1, h2⟩ := List.getElem?_eq_some_iff.1 hnd
        rw [List.take_succ_eq_append_getElem h1, h2]⟩
      have HL := Aside0.mk (show (c.nodes.take k).length ≤ k from List.length_take_le _ _)
      clear hnd
      have HC1 := Aside0.mk hC1
      have HZ0 := Aside0.mk hz0
      have HZ1 := Aside0.mk hz1
      clear hC1 hz0 hz1
      have hca22 : wr.cell? ⟨ga, 22, none⟩ = some (.slice (some adA) c.nodes.length cap) := (blk_cell XAr.out 22).trans rfl
      have b2 : (k : Int) < (c.nodes.length : Int) := by omega
      go_wp2_with fail
      clear hca22
      refine start_ (n := 18) (S := fun w' => Below w2.heap.size w2 w' ∧ w'.heap[ga]? = some (.cells (c.cells (some adA) cap) 24 (0, 0))) (ds := []) #[false, false, false, false, false, false, false, false, false, false, false, false, false, false, false, false, false, false] (by kernel_rfl) rfl rfl ⟨below_drew1 BR.out, blk_drew XAr.out⟩ (fun hHeld => ?_); refine with_tabW twin.tab5 twin.bits5 (fun HT_ HW_ => ?_)
      have HO := Aside0.mk (Kd.R_drew HO.out)
      clear BR XAr
      generalize wr.drew = w40 at HO hHeld ⊢
      refine pure_ (i := 0) (N := some 13) (v := ?_) (a' := ?_) #[true, false, false, false, false, false, false, false, false, false, false, false, false, false, false, false, false, false] rfl rfl (any_of HT_.out (by kernel_rfl)) (fun _ _ _ h => h) (Or.inl ⟨by rfl, ?_⟩) ?_ ?_
      rotate_left
      · intro w'
        go_simp
        with_reducible rfl
      rotate_left
      · simp only [Act.put, List.setIfInBounds_toArray, List.set_cons_zero, List.set_cons_succ, i64_w, i32_w]
        rfl
      refine pure_ (i := 1) (N := some 14) (v := ?_) (a' := ?_) #[true, true, false, false, false, false, false, false, false, false, false, false, false, false, false, false, false, false] rfl rfl (any_of HT_.out (by kernel_rfl)) (fun _ _ _ h => h) (Or.inl ⟨by rfl, ?_⟩) ?_ ?_
      rotate_left
      · intro w'
        go_simp
        with_reducible rfl
      rotate_left
      · simp only [Act.put, List.setIfInBounds_toArray, List.set_cons_zero, List.set_cons_succ, i64_w, i32_w]
        rfl
      refine pure_ (i := 3) (N := some 16) (v := ?_) (a' := ?_) #[true, true, false, true, false, false, false, false, false, false, false, false, false, false, false, false, false, false] rfl rfl (any_of HT_.out (by kernel_rfl)) (fun _ _ _ h => h) (Or.inl ⟨by rfl, ?_⟩) ?_ ?_
      rotate_left
      · intro w'
        go_simp
        with_reducible rfl
      rotate_left
      · simp only [Act.put, List.setIfInBounds_toArray, List.set_cons_zero, List.set_cons_succ, i64_w, i32_w]
        rfl
      refine pure_ (i := 7) (N := some 20) (v := ?_) (a' := ?_) #[true, true, false, true, false, false, false, true, false, false, false, false, false, false, false, false, false, false] rfl rfl (any_of HT_.out (by kernel_rfl)) (fun _ _ _ h => h) (Or.inl ⟨by rfl, ?_⟩) ?_ ?_
      rotate_left
      · intro w'
        go_simp
        with_reducible rfl
      rotate_left
      · simp only [Act.put, List.setIfInBounds_toArray, List.set_cons_zero, List.set_cons_succ, i64_w, i32_w]
        rfl
      refine pure_ (i := 9) (N := some 22) (v := ?_) (a' := ?_) #[true, true, false, true, false, false, false, true, false, true, false, false, false, false, false, false, false, false] rfl rfl (any_of HT_.out (by kernel_rfl)) (fun _ _ _ h => h) (Or.inl ⟨by rfl, ?_⟩) ?_ ?_
      rotate_left
      · intro w'
        go_simp
        with_reducible rfl
      rotate_left
      · simp only [Act.put, List.setIfInBounds_toArray, List.set_cons_zero, List.set_cons_succ, i64_w, i32_w]
        rfl
      refine take_ (i := 2) (N := some 15) (v := ?_) (a' := ?_) #[true, true, true, true, false, false, false, true, false, true, false, false, false, false, false, false, false, false] rfl rfl (take_ofW HT_.out HW_.out (by kernel_rfl)) (fun _ _ _ h => h) (Or.inl ⟨by rfl, ?_⟩) hHeld ?_ ?_
      rotate_left
      · rintro w' ⟨hS0, hS1⟩
        (have h1 : w'.cell? ⟨ga, 22, none⟩ = some (.slice (some adA) c.nodes.length cap) := (blk_cell hS1 22).trans rfl; go_simp; with_reducible rfl)
      rotate_left
      · simp only [Act.put, List.setIfInBounds_toArray, List.set_cons_zero, List.set_cons_succ, i64_w, i32_w]
        rfl
      refine pure_ (i := 4) (N := some 17) (v := ?_) (a' := ?_) #[true, true, true, true, true, false, false, true, false, true, false, false, false, false, false, false, false, false] rfl rfl (any_of HT_.out (by kernel_rfl)) (fun _ _ _ h => h) (Or.inl ⟨by rfl, ?_⟩) ?_ ?_
      rotate_left
      · intro w'
        go_simp
        with_reducible rfl
      rotate_left
      · simp only [Act.put, List.setIfInBounds_toArray, List.set_cons_zero, List.set_cons_succ, i64_w, i32_w]
        rfl
      refine pure_ (i := 5) (N := some 18) (v := ?_) (a' := ?_) #[true, true, true, true, true, true, false, true, false, true, false, false, false, false, false, false, false, false] rfl rfl (any_of HT_.out (by kernel_rfl)) (fun _ _ _ h => h) (Or.inl ⟨by rfl, ?_⟩) ?_ ?_
      rotate_left
      · intro w'
        go_simp
        with_reducible rfl
      rotate_left
      · simp only [Act.put, List.setIfInBounds_toArray, List.set_cons_zero, List.set_cons_succ, i64_w, i32_w]
        rfl
      refine take_ (i := 6) (N := some 19) (v := ?_) (a' := ?_) #[true, true, true, true, true, true, true, true, false, true, false, false, false, false, false, false, false, false] rfl rfl (take_ofW HT_.out HW_.out (by kernel_rfl)) (fun _ _ _ h => h) (Or.inl ⟨by rfl, ?_⟩) hHeld ?_ ?_
      rotate_left
      · rintro w' ⟨hS0, hS1⟩
        (have h1 := pw_cell_below (below_step BW.out hS0) HZ0.out; go_simp; with_reducible rfl)
      rotate_left
      · simp only [Act.put, List.setIfInBounds_toArray, List.set_cons_zero, List.set_cons_succ, i64_w, i32_w]
        rfl
      refine take_ (i := 8) (N := some 21) (v := ?_) (a' := ?_) #[true, true, true, true, true, true, true, true, true, true, false, false, false, false, false, false, false, false] rfl rfl (take_ofW HT_.out HW_.out (by kernel_rfl)) (fun _ _ _ h => h) (Or.inl ⟨by rfl, ?_⟩) hHeld ?_ ?_
      rotate_left
      · rintro w' ⟨hS0, hS1⟩
        (have h1 : w'.cell? ⟨ga, 22, none⟩ = some (.slice (some adA) c.nodes.length cap) := (blk_cell hS1 22).trans rfl; go_simp; with_reducible rfl)
      rotate_left
      · simp only [Act.put, List.setIfInBounds_toArray, List.set_cons_zero, List.set_cons_succ, i64_w, i32_w]
        rfl
      refine pure_ (i := 10) (N := some 23) (v := ?_) (a' := ?_) #[true, true, true, true, true, true, true, true, true, true, true, false, false, false, false, false, false, false] rfl rfl (any_of HT_.out (by kernel_rfl)) (fun _ _ _ h => h) (Or.inl ⟨by rfl, ?_⟩) ?_ ?_
      rotate_left
      · intro w'
        go_simp
        with_reducible rfl
      rotate_left
      · simp only [Act.put, List.setIfInBounds_toArray, List.set_cons_zero, List.set_cons_succ, i64_w, i32_w]
        rfl
      refine pure_ (i := 11) (N := some 24) (v := ?_) (a' := ?_) #[true, true, true, true, true, true, true, true, true, true, true, true, false, false, false, false, false, false] rfl rfl (any_of HT_.out (by kernel_rfl)) (fun _ _ _ h => h) (Or.inl ⟨by rfl, ?_⟩) ?_ ?_
      rotate_left
      · intro w'
        go_simp
        with_reducible rfl
      rotate_left
      · simp only [Act.put, List.setIfInBounds_toArray, List.set_cons_zero, List.set_cons_succ, i64_w, i32_w]
        rfl
      refine take_ (i := 12) (N := some 25) (v := ?_) (a' := ?_) #[true, true, true, true, true, true, true, true, true, true, true, true, true, false, false, false, false, false] rfl rfl (take_ofW HT_.out HW_.out (by kernel_rfl)) (fun _ _ _ h => h) (Or.inl ⟨by rfl, ?_⟩) hHeld ?_ ?_
      rotate_left
      · rintro w' ⟨hS0, hS1⟩
        (have h1 := pw_cell_below (below_step BW.out hS0) HZ1.out; go_simp; with_reducible rfl)
      rotate_left
      · simp only [Act.put, List.setIfInBounds_toArray, List.set_cons_zero, List.set_cons_succ, i64_w, i32_w]
        rfl
      refine one_ (i := 13) (N := some 26) #[true, true, true, true, true, true, true, true, true, true, true, true, true, true, false, false, false, false] rfl rfl (one_of HT_.out (by kernel_rfl)) (by decide) (fun K hK => ?_)
      refine Kd.R_append_rows_step (Kd.int .i64) (w0 := w2) w2.heap.size (by rfl) (.const (.slice none 0 0)) (.tmp 25) 36 3 (.int .i64 0) 8 rfl Tryd.underlying36 infoInt rfl (by decide) (by decide) (.slice none 0 0) [] nd.f1 A1 nd.f1.length c1 (fun j => w40.heap.size ≤ j) (fun _ => False) rfl rfl (Kd.R_nil _ _ _ _ _) (Kd.C_below HC1.out (below_step BW.out hHeld.1)) (fun x cs h => h) (fun _ hk => hk.elim) (fun j hj => hj) hHeld.1 hHeld.1.size (by simp only [List.length_nil]; omega) ?_
      intro vp w5 HP hb5 hg5 hat5
      simp only [List.nil_append] at HP
      obtain ⟨Ap, cp, rfl⟩ := Kd.R_slice HP
      have HP := Aside0.mk HP
      have HO5 := Aside0.mk (Kd.R_grown HO.out hg5 (fun j _ => by simp [Value.ownBlock]))
      have HQ := Aside0.mk (show ∀ j, w40.heap.size ≤ j → True ∧ some j ≠ u3.ownBlock from fun j hj => ⟨trivial, fun he => by have := Kd.R_lt HO.out j he.symm; omega⟩)
      clear hg5 hat5
      refine hK.out _ _ ⟨hb5, blk_below XA.out hb5⟩ (fun hHeld => ?_)
      clear hK K
      refine norm_ (a' := ?_) ?_ ?_
      rotate_left
      · show Act.put _ (some 26) _ = _
        simp only [Act.put, List.setIfInBounds_toArray, List.set_cons_zero, List.set_cons_succ, i64_w, i32_w]
        rfl
      refine pure_ (i := 14) (N := some 27) (v := ?_) (a' := ?_) #[true, true, true, true, true, true, true, true, true, true, true, true, true, true, true, false, false, false] rfl rfl (any_of HT_.out (by kernel_rfl)) (fun _ _ _ h => h) (Or.inl ⟨by rfl, ?_⟩) ?_ ?_
      rotate_left
      · intro w'
        go_simp
        with_reducible rfl
      rotate_left
      · simp only [Act.put, List.setIfInBounds_toArray, List.set_cons_zero, List.set_cons_succ, i64_w, i32_w]
        rfl
      refine one_ (i := 15) (N := some 28) #[true, true, true, true, true, true, true, true, true, true, true, true, true, true, true, true, false, false] rfl rfl (one_of HT_.out (by kernel_rfl)) (by decide) (fun K hK => ?_)
      refine value_ (w1 := ?_) (v := ?_) (by rfl) rfl ?_ ?_
      rotate_left 2
      · go_simp
        constructor
        · rfl
        · rfl
      refine hK.out _ _ ⟨below_alloc hHeld.1 _, blk_alloc hHeld.2 _⟩ (fun hHeld => ?_)
      clear hK K
      refine norm_ (a' := ?_) ?_ ?_
      rotate_left
      · show Act.put _ (some 28) _ = _
        simp only [Act.put, List.setIfInBounds_toArray, List.set_cons_zero, List.set_cons_succ, i64_w, i32_w]
        rfl
      refine one_ (i := 16) (N := some 29) #[true, true, true, true, true, true, true, true, true, true, true, true, true, true, true, true, true, false] rfl rfl (one_of HT_.out (by kernel_rfl)) (by decide) (fun K hK => ?_)
      refine Kd.R_append_step kN (w0 := w2) w2.heap.size (by rfl) (.tmp 13) (.tmp 28) 22 56 (.agg #[.int .i64 0, .slice none 0 0]) 32 rfl Tryd.underlying22 infoND rfl (by decide) (by decide) u3 (c.nodes.take k) nd [.int .i64 nd.f0, .slice Ap nd.f1.length cp] (fun _ => True) (fun j => w40.heap.size ≤ j) rfl rfl (k56_mkM _ _ _ nd HP.out) HQ.out (fun _ _ => trivial) HO5.out hb5 hb5.size (by have := HL.out; omega) ?_
      intro v1 w6 HO6 hb6 hg6 hat6
      have HO6 := Aside0.mk HO6
      clear hg6 hat6
      refine hK.out _ _ ⟨hb6, blk_below XA.out hb6⟩ (fun hHeld => ?_)
      clear hK K
      refine norm_ (a' := ?_) ?_ ?_
      rotate_left
      · show Act.put _ (some 29) _ = _
        simp only [Act.put, List.setIfInBounds_toArray, List.set_cons_zero, List.set_cons_succ, i64_w, i32_w]
        rfl
      refine pure_ (i := 17) (N := some 3) (v := ?_) (a' := ?_) #[true, true, true, true, true, true, true, true, true, true, true, true, true, true, true, true, true, true] rfl rfl (any_of HT_.out (by kernel_rfl)) (fun _ _ _ h => h) (Or.inl ⟨by rfl, ?_⟩) ?_ ?_
      rotate_left
      · intro w'
        go_simp
        with_reducible rfl
      rotate_left
      · simp only [Act.put, List.setIfInBounds_toArray, List.set_cons_zero, List.set_cons_succ, i64_w, i32_w]
        rfl
      refine done_ (done_of HT_.out (by kernel_rfl)) ?_
      go_wp2_with fail
      go_roundw
      case rel => exact ⟨k + 1, by omega, by go_num, ⟨by rw [HTk.out]; exact HO6.out⟩, ⟨hb6⟩⟩
      case measure => simp [intOf]; omega
    · have HO : Aside0 (Kd.R kN 56 wr w2.heap.size (fun _ => True) u3 c.nodes) := ⟨by
        have h := HO.out
        rwa [List.take_of_length_le (by omega)] at h⟩
      obtain ⟨A', cap', rfl, hcap', -⟩ := Kd.R_reads HO.out
      have XRr := Aside0.mk (blk_below XR.out BR.out)
      have hca22 : wr.cell? ⟨ga, 22, none⟩ = some (.slice A c.nodes.length cap) := (blk_cell XAr.out 22).trans rfl
      go_wp2_with (first | ((with_reducible refine gate_dst (N := 30) rfl ?_); refine wpList_load_row rfl 24 (.tmp 1) rfl ga rfl 24 (c.cells A cap) (0, 0) _ XAr.out Tryd.underlying24 rfl (by kernel_rfl) ?_) | ((with_reducible refine gate_dst (N := 5) rfl ?_); refine new_event ?hg (N := 5) ?hd (zeroClu.cells none 0) 24 ?hr ?_; (case hd => rfl); (case hg => rfl); (case hr => first | (go_simp; done) | (go_simp; rfl)); intro gd w3 GD XD B3; clear hca22) | ((with_reducible refine gate_store (t := 24) (p := 5) (v := .tmp 30) rfl ?_); refine store_row_event rfl 24 (.tmp 5) (.tmp 30) rfl gd (c.cells A cap) rfl rfl 24 _ XD.out ?si rfl ?so ?_; (case si => kernel_rfl); (case so => (first | exact Clu.cells_all _ _ _ | exact intCells_one _ | rfl | simp [Value.oneCell'])); intro w4 XD4 G4) | ((with_reducible refine gate_store (t := 22) (p := 32) (v := .tmp 31) rfl ?_); refine store_cell_event rfl 22 32 (.tmp 31) rfl rfl gd 22 (.slice A' c.nodes.length cap') 24 (c.cells A cap) XD4.out ?hr ?_; (case hr => (have hz_ : _ = some (.slice A c.nodes.length cap : Value) := (blk_cell XD4.out 22).trans rfl; have hf_ := blk_frozen XD4.out 22; first | (go_simp; done) | (go_simp; rfl))); intro w5 XD5r G5; have XD5 : Aside0 (w5.heap[gd]? = some (.cells (c.cells A' cap') 24 (0, 0))) := ⟨by have h := XD5r.out; rwa [cells_set] at h⟩; have hne : some gr ≠ some gd := (fun he => by (have h1 := blk_lt XRr.out; have h2 := GD.out; injection he with he; omega)); have XR5 := Aside0.mk (blk_grown (blk_grown (blk_below XRr.out B3.out) G4.out hne) G5.out hne); clear hne) | ((with_reducible refine gate_dst (N := 33) rfl ?_); refine wpList_load_row rfl 24 (.tmp 5) rfl gd rfl 24 (c.cells A' cap') (0, 0) _ XD5.out Tryd.underlying24 rfl (by kernel_rfl) ?_) | ((with_reducible refine gate_store (t := 24) (p := 2) (v := .tmp 33) rfl ?_); refine store_row_event rfl 24 (.tmp 2) (.tmp 33) rfl gr (c.cells A' cap') rfl rfl 24 _ XR5.out ?si rfl ?so ?_; (case si => kernel_rfl); (case so => (first | exact Clu.cells_all _ _ _ | exact intCells_one _ | rfl | simp [Value.oneCell'])); intro w6 XR6 G6))
      refine bodyPost_ret (results_cell_row rfl _ _ gr 24 _ (0, 0) _ rfl XR6.out Tryd.underlying24 rfl (by kernel_rfl)) rfl ⟨A', cap', rfl, ?_, ?_⟩
      · have h3 := Kd.R_types (Kd.R_below HO.out B3.out) XD.out (by decide)
        have h4 := Kd.R_grown h3 G4.out (fun j hj he => by injection he with he; exact hj.2 he)
        have h5 := Kd.R_grown h4 G5.out (fun j hj he => by injection he with he; exact hj.2 he)
        have h6 := Kd.R_grown (Kd.R_types h5 XR5.out (by decide)) G6.out (fun j hj he => by injection he with he; exact hj.2 he)
        exact Kd.R_lower (Kd.R_mono h6 (fun _ _ => trivial)) BW.out.size
      · have hw3 := below_step (below_step BW.out BR.out) B3.out
        have hd : w.heap.size ≤ gd := Nat.le_trans (below_step BW.out BR.out).size GD.out
        have hr : w.heap.size ≤ gr := Nat.le_trans B1.out.size GR.out
        exact below_row (below_row (below_row hw3 hd G4.out) hd G5.out) hr G6.out
end Go.Proofs.YtkcpeanimmjajaaDoor.Ring
