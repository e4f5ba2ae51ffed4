import Derived.Test.YtkcpeanimmjajaaDoorRring
namespace Go.Proofs.YtkcpeanimmjajaaDoor.Ring
open Go.RowKit Go.Proofs.YtkcpeanimmjajaaDoorW.PrintWords Go.Proofs.YtkcpeanimmjajaaDoorW.PrintLast Go.Proofs.YtkcpeanimmjajaaDoorW.PrintMore Go.Proofs.YtkcpeanimmjajaaDoor.PRingWalks
set_option linter.unusedVariables false
set_option linter.unusedSimpArgs false

def rown.T8 : Bool × List (List Nat × List Nat) := (true, [([], []), ([], []), ([], []), ([], []), ([2, 3], [2, 3]), ([4], [4]), ([1, 5], [1, 5]), ([6], [6]), ([0, 7, 6], [0, 7]), ([8, 8, 0, 1, 2, 3, 4, 5, 6, 7, 8], [0, 8])])
def rown.B8 : List Nat := [0, 0, 0, 0, 12, 28, 62, 126, 255, 511]
theorem rown.tab8 : rtab .any (opsOf Tryd.f19 8) = rown.T8 := by kernel_rfl
theorem rown.bits8 : waitsOk rown.T8.2 rown.B8 = true := by kernel_rfl
set_option maxHeartbeats 8000000 in
set_option maxRecDepth 100000 in
theorem rown_pair (c : Clu) (A : Option Addr) (cap : Nat) (part : Int) (w : World) (HR : Kd.C kN w A c.nodes.length c.nodes) (hok : c.ok) (hG : Great w) :
    Calls Tryd.prog 19 #[.agg (c.cells A cap), .int .i64 part] w fun e w' => PairPost (ownV c part) (walkE c part) w e w' := by
  have HR' := Aside0.mk HR
  have HG := Aside0.mk hG
  clear HR hG
  go_enter Tryd.func19, Tryd.ntmps19
  go_wp2_with (first | ((with_reducible refine gate_dst (N := 2) rfl ?_); refine new_event ?hg (N := 2) ?hd (c.cells A cap) 24 ?hr ?_; (case hd => rfl); (case hg => rfl); (case hr => first | (go_simp; done) | (go_simp; rfl)); intro gb w1 GE HX HB) | ((with_reducible refine gate_dst (N := 11) rfl ?_); refine wpList_load_row rfl 24 (.tmp 2) rfl gb rfl 24 (c.cells A cap) (0, 0) _ HX.out Tryd.underlying24 rfl (by kernel_rfl) ?_))
  go_at_call 16
  refine (rwalk_pair c A cap part w1 (Kd.C_below HR'.out HB.out) hok (HG.out.below HB.out)).mono ?_
  rintro e w2 ⟨v, rfl, hR, hb⟩
  have HB2 := Aside0.mk (below_step HB.out hb)
  have HX2 := Aside0.mk (blk_below HX.out hb)
  clear hb
  by_cases hw : checkN c = 0 ∧ There c part
  · obtain ⟨h0, hth⟩ := hw
    obtain ⟨hd0, hf1, hf2, hn16⟩ := check_ok h0
    have HE := Aside0.mk (show walkE c part = 0 by unfold walkE; rw [if_pos h0, if_pos hth])
    have HV := Aside0.mk (show ownV c part = ownL (HH c.nodes) part.toNat c.f1.toNat by unfold ownV; rw [if_pos ⟨h0, hth⟩])
    have hV : walkV c part = walkL (HH c.nodes) part.toNat c.f1.toNat := by unfold walkV; rw [if_pos ⟨h0, hth⟩]
    rw [hV] at hR
    rw [HE.out]
    have hH := HH_homes hd0
    obtain ⟨H, hHe⟩ : ∃ H, HH c.nodes = H := ⟨_, rfl⟩
    rw [hHe] at hH hR HV
    have hP1 := hd0.1
    have hP2 := hd0.2.1
    rw [← hH.1] at hP1 hP2
    have HHo := Aside0.mk hH
    have HD := Aside0.mk hd0
    obtain ⟨m, hm⟩ : ∃ m, (walkL H part.toNat c.f1.toNat).length = m := ⟨_, rfl⟩
    obtain ⟨Ar, cr, rfl, hcr⟩ := R_slice_n hR hm
    have HM := Aside0.mk hm
    have HCr := Aside0.mk (show (Kd.int .i64).C w2 Ar m (walkL H part.toNat c.f1.toNat) from by
      obtain ⟨h1, h2, h3⟩ := Kd.R_reads' hR
      rwa [hm] at h3)
    have hml : m ≤ 64 := by
      have h1 := rnd_len H part.toNat c.f1.toNat H.length
      unfold walkL at hm
      rw [List.length_map] at hm
      omega
    clear hR hV h0 hth hd0 hH hHe hm hf1 hf2
    go_wp2_with fail
    go_loopw [8, 9] (fun v i wr => ∃ k : Nat, k ≤ m ∧ i = .int .i64 k ∧ Aside0 ((Kd.int .i64).R 3 wr w2.heap.size (fun _ => True) v ((ownL H part.toNat c.f1.toNat).take k)) ∧ Aside0 (Below w2.heap.size w2 wr)) (fun _ i _ => m - (intOf i).toNat)
    case atStart => exact ⟨0, Nat.zero_le _, rfl, ⟨Kd.R_nil _ _ _ _ _⟩, ⟨Below.refl _ _⟩⟩
    case round =>
      obtain ⟨k, hk, rfl, HO, HBr⟩ := hrel
      by_cases hlt : k < m
      · obtain ⟨adr, x, rfl, hx, hzx⟩ := int_at HCr.out k hlt
        have hkl : k < (rnd H part.toNat c.f1.toNat H.length).length := by
          have h1 := HM.out
          unfold walkL at h1
          rw [List.length_map] at h1
          omega
        unfold walkL at hx
        rw [List.getElem?_map, List.getElem?_eq_getElem hkl] at hx
        obtain rfl := Option.some.inj hx
        obtain ⟨t, ht⟩ : ∃ t, (rnd H part.toNat c.f1.toNat H.length)[k] = t := ⟨_, rfl⟩
        have htl := rnd_lt (H := H) (by omega) part.toNat c.f1.toNat H.length t (by rw [← ht]; exact List.getElem_mem hkl)
        have HTk : Aside0 ((ownL H part.toNat c.f1.toNat).take k ++ [hd H t] = (ownL H part.toNat c.f1.toNat).take (k + 1)) := ⟨by
          unfold ownL
          rw [List.take_succ_eq_append_getElem (by rw [List.length_map]; exact hkl), List.getElem_map, ht]⟩
        rw [ht] at hzx
        have HZx : Aside0 (w2.cell? (adr.add k) = some (.int .i64 (t : Int))) := ⟨hzx⟩
        clear hx ht hzx hkl
        have HLk := Aside0.mk (show ((ownL H part.toNat c.f1.toNat).take k).length ≤ k from List.length_take_le _ _)
        have XHr := Aside0.mk (blk_below HX2.out HBr.out)
        have b1 : (k : Int) < (m : Int) := by omega
        go_wp2_with fail
        refine start_ (n := 10) (S := fun w' => Below w2.heap.size w2 w' ∧ w'.heap[gb]? = some (.cells (c.cells A cap) 24 (0, 0))) (ds := []) #[false, false, false, false, false, false, false, false, false, false] (by kernel_rfl) rfl rfl ⟨below_drew1 HBr.out, blk_drew XHr.out⟩ (fun hHeld => ?_); refine with_tabW rown.tab8 rown.bits8 (fun HT_ HW_ => ?_)
        have HO := Aside0.mk (Kd.R_drew HO.out)
        clear HBr XHr
        generalize wr.drew = w40 at HO hHeld ⊢
        refine pure_ (i := 0) (N := some 25) (v := ?_) (a' := ?_) #[true, false, false, false, false, false, false, false, false, false] rfl rfl (any_of HT_.out (by kernel_rfl)) (fun _ _ _ h => h) (Or.inl ⟨by rfl, ?_⟩) ?_ ?_
        rotate_left
        · intro w'
          go_simp
          with_reducible rfl
        rotate_left
        · simp only [Act.put, List.setIfInBounds_toArray, List.set_cons_zero, List.set_cons_succ, i64_w, i32_w]
          rfl
        refine pure_ (i := 2) (N := some 27) (v := ?_) (a' := ?_) #[true, false, true, false, false, false, false, false, false, false] rfl rfl (any_of HT_.out (by kernel_rfl)) (fun _ _ _ h => h) (Or.inl ⟨by rfl, ?_⟩) ?_ ?_
        rotate_left
        · intro w'
          go_simp
          with_reducible rfl
        rotate_left
        · simp only [Act.put, List.setIfInBounds_toArray, List.set_cons_zero, List.set_cons_succ, i64_w, i32_w]
          rfl
        refine pure_ (i := 3) (N := some 28) (v := ?_) (a' := ?_) #[true, false, true, true, false, false, false, false, false, false] rfl rfl (any_of HT_.out (by kernel_rfl)) (fun _ _ _ h => h) (Or.inl ⟨by rfl, ?_⟩) ?_ ?_
        rotate_left
        · intro w'
          go_simp
          with_reducible rfl
        rotate_left
        · simp only [Act.put, List.setIfInBounds_toArray, List.set_cons_zero, List.set_cons_succ, i64_w, i32_w]
          rfl
        refine pure_ (i := 4) (N := some 29) (v := ?_) (a' := ?_) #[true, false, true, true, true, false, false, false, false, false] rfl rfl (any_of HT_.out (by kernel_rfl)) (fun _ _ _ h => h) (Or.inl ⟨by rfl, ?_⟩) ?_ ?_
        rotate_left
        · intro w'
          go_simp
          with_reducible rfl
        rotate_left
        · simp only [Act.put, List.setIfInBounds_toArray, List.set_cons_zero, List.set_cons_succ, i64_w, i32_w]
          rfl
        refine take_ (i := 1) (N := some 26) (v := ?_) (a' := ?_) #[true, true, true, true, true, false, false, false, false, false] rfl rfl (take_ofW HT_.out HW_.out (by kernel_rfl)) (fun _ _ _ h => h) (Or.inl ⟨by rfl, ?_⟩) hHeld ?_ ?_
        rotate_left
        · rintro w' ⟨hS0, hS1⟩
          (refine exec_load_row 24 (.tmp 2) ?_ gb ?_ (c.cells A cap) 24 hS1 _ Tryd.underlying24 ?_ infoClu; all_goals rfl)
        rotate_left
        · simp only [Act.put, List.setIfInBounds_toArray, List.set_cons_zero, List.set_cons_succ, i64_w, i32_w]
          rfl
        refine take_ (i := 5) (N := some 30) (v := ?_) (a' := ?_) #[true, true, true, true, true, true, false, false, false, false] rfl rfl (take_ofW HT_.out HW_.out (by kernel_rfl)) (fun _ _ _ h => h) (Or.inl ⟨by rfl, ?_⟩) hHeld ?_ ?_
        rotate_left
        · rintro w' ⟨hS0, hS1⟩
          (have h1 := pw_cell_below hS0 HZx.out; go_simp; with_reducible rfl)
        rotate_left
        · simp only [Act.put, List.setIfInBounds_toArray, List.set_cons_zero, List.set_cons_succ, i64_w, i32_w]
          rfl
        refine one_ (i := 6) (N := some 31) #[true, true, true, true, true, true, true, false, false, false] rfl rfl (one_of HT_.out (by kernel_rfl)) (by decide) (fun K hK => ?_)
        refine goes_ Tryd.func43 (by kernel_rfl) rfl #[.agg (c.cells A cap), .int .i64 (t : Int)] (by rfl) rfl rfl (by (try simp only [List.map_toArray, List.map_cons, List.map_nil]); first | done | rfl) ?_
        refine (home_calls c A cap _ _ (Kd.C_below HR'.out (below_step HB2.out hHeld.1)) hok H HHo.out HD.out (by omega) (by omega)).mono ?_
        rw [Int.toNat_natCast]
        rintro e w5 ⟨rfl, hb5⟩
        refine ⟨_, rfl, ?_⟩
        have HO5 := Aside0.mk (Kd.R_below HO.out hb5)
        have HB5 := Aside0.mk (below_step hHeld.1 hb5)
        refine hK.out _ _ ⟨HB5.out, blk_below hHeld.2 hb5⟩ (fun hHeld => ?_)
        clear hK K
        refine norm_ (a' := ?_) ?_ ?_
        rotate_left
        · show Act.put _ (some 31) _ = _
          simp only [Act.put, List.setIfInBounds_toArray, List.set_cons_zero, List.set_cons_succ, i64_w, i32_w]
          rfl
        refine one_ (i := 7) (N := some 32) #[true, true, true, true, true, true, true, true, false, false] rfl rfl (one_of HT_.out (by kernel_rfl)) (by decide) (fun K hK => ?_)
        refine value_ (w1 := ?_) (v := ?_) (by rfl) rfl ?_ ?_
        rotate_left 2
        · go_simp
          constructor
          · rfl
          · rfl
        refine hK.out _ _ ⟨below_alloc hHeld.1 _, blk_alloc hHeld.2 _⟩ (fun hHeld => ?_)
        clear hK K
        refine norm_ (a' := ?_) ?_ ?_
        rotate_left
        · show Act.put _ (some 32) _ = _
          simp only [Act.put, List.setIfInBounds_toArray, List.set_cons_zero, List.set_cons_succ, i64_w, i32_w]
          rfl
        refine one_ (i := 8) (N := some 33) #[true, true, true, true, true, true, true, true, true, false] rfl rfl (one_of HT_.out (by kernel_rfl)) (by decide) (fun K hK => ?_)
        refine Kd.R_append_step (Kd.int .i64) (w0 := w2) w2.heap.size (by rfl) (.tmp 25) (.tmp 32) 36 3 (.int .i64 0) 8 rfl Tryd.underlying36 infoInt rfl (by decide) (by decide) u8 ((ownL H part.toNat c.f1.toNat).take k) (hd H t) [.int .i64 (hd H t)] (fun _ => True) (fun _ => False) rfl rfl rfl (fun _ hk => hk.elim) (fun _ _ => trivial) HO5.out HB5.out HB5.out.size (by have h1 := HLk.out; omega) ?_
        intro v1 w6 HR1 hb6 hg6 hat6
        have HR1 := Aside0.mk HR1
        have HB6 := Aside0.mk hb6
        clear hg6 hat6
        refine hK.out _ _ ⟨hb6, blk_below HX2.out hb6⟩ (fun hHeld => ?_)
        clear hK K
        refine norm_ (a' := ?_) ?_ ?_
        rotate_left
        · show Act.put _ (some 33) _ = _
          simp only [Act.put, List.setIfInBounds_toArray, List.set_cons_zero, List.set_cons_succ, i64_w, i32_w]
          rfl
        refine pure_ (i := 9) (N := some 8) (v := ?_) (a' := ?_) #[true, true, true, true, true, true, true, true, true, true] rfl rfl (any_of HT_.out (by kernel_rfl)) (fun _ _ _ h => h) (Or.inl ⟨by rfl, ?_⟩) ?_ ?_
        rotate_left
        · intro w'
          go_simp
          with_reducible rfl
        rotate_left
        · simp only [Act.put, List.setIfInBounds_toArray, List.set_cons_zero, List.set_cons_succ, i64_w, i32_w]
          rfl
        refine done_ (done_of HT_.out (by kernel_rfl)) ?_
        clear HT_ HW_
        go_wp2_with fail
        go_roundw
        case rel => exact ⟨k + 1, by omega, by go_num, ⟨by rw [← HTk.out]; exact HR1.out⟩, HB6⟩
        case measure => simp [intOf]; omega
      · have HAll := Aside0.mk (show (ownL H part.toNat c.f1.toNat).take k = ownL H part.toNat c.f1.toNat from List.take_of_length_le (by
          have h1 := HM.out
          unfold walkL at h1
          unfold ownL
          rw [List.length_map] at h1 ⊢
          omega))
        go_wp2_with fail
        go_ret2
        exact ⟨_, by rw [HE.out]; rfl, by rw [HV.out, ← HAll.out]; exact Kd.R_lower HO.out HB2.out.size, below_step HB2.out HBr.out⟩
  · have hne : walkE c part ≠ 0 := by
      unfold walkE
      by_cases h0 : checkN c = 0
      · rw [if_pos h0, if_neg (fun h => hw ⟨h0, h⟩)]; decide
      · rw [if_neg h0]; exact h0
    have t1 : (walkE c part != 0) = true := bne_iff_ne.2 hne
    have HV := Aside0.mk (show ownV c part = [] by unfold ownV; rw [if_neg hw])
    clear hne hR hw
    go_wp2_with fail
    go_ret2
    exact pair_no HV.out rfl HB2.out
end Go.Proofs.YtkcpeanimmjajaaDoor.Ring
