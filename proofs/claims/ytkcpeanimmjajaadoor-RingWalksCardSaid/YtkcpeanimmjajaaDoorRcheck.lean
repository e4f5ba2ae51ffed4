import Derived.Test.YtkcpeanimmjajaaDoorRname
import Derived.Deep.RegionHeld3
import Derived.Deep.MidRow
namespace Go.Proofs.YtkcpeanimmjajaaDoor.Ring
open Go.RowKit Go.Proofs.YtkcpeanimmjajaaDoorW.PrintWords Go.Proofs.YtkcpeanimmjajaaDoorW.PrintLast Go.Proofs.YtkcpeanimmjajaaDoorW.PrintMore Go.Proofs.YtkcpeanimmjajaaDoor.PRingWalks
set_option linter.unusedVariables false
set_option linter.unusedSimpArgs false

theorem setB_true {c : Clu} (h : setB c = true) : SetOK c ∧ ¬ (c.f8 < c.f5 ∨ c.f11 < c.f10) := by
  apply Classical.byContradiction
  intro hn
  rw [setB_no hn] at h
  cases h
theorem setB_false {c : Clu} (h : setB c = false) : ¬ (SetOK c ∧ ¬ (c.f8 < c.f5 ∨ c.f11 < c.f10)) := by
  intro hn
  rw [setB_yes hn] at h
  cases h
theorem check_set' {c : Clu} (h0 : nameB c.store = true) (h : setB c = false) : checkN c = 64 := by
  by_cases h1 : SetOK c
  · exact check_more h0 h1 (Classical.byContradiction fun h2 => setB_false h ⟨h1, h2⟩)
  · exact check_set h0 h1
theorem dealtB_true {l : List ND} (h : dealtB l = true) : Dealt l := by
  apply Classical.byContradiction
  intro hn
  rw [dealtB_no hn] at h
  cases h
theorem dealtB_false {l : List ND} (h : dealtB l = false) : ¬ Dealt l := by
  intro hn
  rw [dealtB_yes hn] at h
  cases h

def rcheck.T19 : Bool × List (List Nat × List Nat) := (true, [([], []), ([0], [0]), ([], []), ([2], [2]), ([1, 3], [1, 3]), ([], []), ([5], [5]), ([4, 6], [4, 6]), ([7], [7])])
def rcheck.B19 : List Nat := [0, 1, 0, 4, 15, 0, 32, 127, 255]
theorem rcheck.tab19 : rtab .any (opsOf Tryd.f13 19) = rcheck.T19 := by kernel_rfl
theorem rcheck.bits19 : waitsOk rcheck.T19.2 rcheck.B19 = true := by kernel_rfl
set_option maxHeartbeats 8000000 in
set_option maxRecDepth 100000 in
theorem rcheck_calls (c : Clu) (A : Option Addr) (cap : Nat) (w : World) (HR : Kd.C kN w A c.nodes.length c.nodes) (hok : c.ok) (hG : Great w) :
    Calls Tryd.prog 13 #[.agg (c.cells A cap)] w fun e w' => e = .returned (.int .i64 (checkN c)) ∧ Below w.heap.size w w' := by
  have HR' := Aside0.mk HR
  have HG := Aside0.mk hG
  clear HR hG
  go_enter Tryd.func13, Tryd.ntmps13
  go_wp2_with (first | ((with_reducible refine gate_dst (N := 1) rfl ?_); refine new_event ?hg (N := 1) ?hd (c.cells A cap) 24 ?hr ?_; (case hd => rfl); (case hg => rfl); (case hr => first | (go_simp; done) | (go_simp; rfl)); intro gb w1 GE HX HB; have hc0 : w1.cell? ⟨gb, 0, none⟩ = some (.string c.store) := (blk_cell HX.out 0).trans rfl))
  go_at_call 36
  refine (named_calls c.store w1 hok.1).mono ?_
  rintro e w2 ⟨rfl, hb2⟩
  have HB2 := Aside0.mk (below_step HB.out hb2)
  have HX2 := Aside0.mk (blk_below HX.out hb2)
  clear hb2 hc0 HB HX
  cases hname : nameB c.store with
  | false =>
    have HF := Aside0.mk (check_name hname)
    clear hname
    go_wp2_with fail
    go_ret
    exact ⟨ret_i64 HF.out.symm, HB2.out⟩
  | true =>
    have HN := Aside0.mk hname
    clear hname
    go_wp2_with (first | ((with_reducible refine gate_dst (N := 9) rfl ?_); refine wpList_load_row rfl 24 (.tmp 1) rfl gb rfl 24 (c.cells A cap) (0, 0) _ HX2.out Tryd.underlying24 rfl (by kernel_rfl) ?_))
    go_at_call 37
    refine (rset_calls c A cap w2 (HG.out.below HB2.out)).mono ?_
    rintro e w3 ⟨rfl, hb3⟩
    have HB3 := Aside0.mk (below_step HB2.out hb3)
    have HX3 := Aside0.mk (blk_below HX2.out hb3)
    clear hb3 HB2 HX2
    cases hset : setB c with
    | false =>
      have HF := Aside0.mk (check_set' HN.out hset)
      clear hset
      go_wp2_with fail
      go_ret
      exact ⟨ret_i64 HF.out.symm, HB3.out⟩
    | true =>
      have HSet := Aside0.mk (setB_true hset)
      clear hset
      have hc22 : w3.cell? ⟨gb, 22, none⟩ = some (.slice A c.nodes.length cap) := (blk_cell HX3.out 22).trans rfl
      by_cases hcount : 1 ≤ c.nodes.length ∧ c.nodes.length ≤ 16
      · have HCo := Aside0.mk hcount
        obtain ⟨hn1, hn16⟩ := hcount
        have t1 : decide ((c.nodes.length : Int) < 1) = false := decide_eq_false (by omega)
        have t2 : decide ((16 : Int) < (c.nodes.length : Int)) = false := decide_eq_false (by omega)
        go_wp2_with fail
        go_loop [3, 4] (fun v i => ∃ k : Nat, k ≤ c.nodes.length ∧ i = .int .i64 k ∧ v = .int .i64 (fullN (c.nodes.take k)) ∧ Aside0 (ZonesOK (c.nodes.take k))) (fun _ i => c.nodes.length - (intOf i).toNat)
        case atStart => exact ⟨0, Nat.zero_le _, rfl, rfl, ⟨fun nd h => by simp at h⟩⟩
        case round =>
          obtain ⟨k, hk, rfl, rfl, HZ⟩ := hrel
          have hfl := fullN_le (c.nodes.take k)
          have hfl2 : (c.nodes.take k).length ≤ k := List.length_take_le _ _
          by_cases hlt : k < c.nodes.length
          · obtain ⟨ad, A1, c1, nd, rfl, hnd, hz0w, hz1w, hl1, hC1⟩ := node_at HR'.out k hlt
            have hz0 := pw_cell_below HB3.out hz0w
            have hz1 := pw_cell_below HB3.out hz1w
            have HMem := Aside0.mk (List.mem_of_getElem? hnd)
            have HSn := Aside0.mk (fullN_snoc c.nodes k nd hnd)
            have HTk : Aside0 (c.nodes.take (k + 1) = c.nodes.take k ++ [nd]) := ⟨by
              obtain ⟨h1, h2⟩ := List.getElem?_eq_some_iff.1 hnd
              rw [List.take_succ_eq_append_getElem h1, h2]⟩
            clear hnd hC1 hz0w hz1w
            by_cases hzo : 0 ≤ nd.f0 ∧ nd.f0 ≤ 7
            · have HZn : Aside0 (ZonesOK (c.nodes.take (k + 1))) := ⟨fun q hq => by
                rw [HTk.out, List.mem_append] at hq
                rcases hq with hq | hq
                · exact HZ.out q hq
                · rw [List.mem_singleton.1 hq]; exact hzo⟩
              have t3 : decide (nd.f0 < 0) = false := decide_eq_false (by omega)
              have t4 : decide ((8 : Int) ≤ nd.f0) = false := decide_eq_false (by omega)
              clear hzo
              by_cases hp : 0 < nd.f1.length
              · have t5 : decide ((0 : Int) < (nd.f1.length : Int)) = true := decide_eq_true (by omega)
                have HFn : Aside0 (fullN (c.nodes.take (k + 1)) = fullN (c.nodes.take k) + 1) := ⟨by rw [HSn.out, if_pos hp]⟩
                go_wp2_with fail
                go_round
                case rel => exact ⟨k + 1, by omega, by go_num, by rw [HFn.out]; go_num, HZn⟩
                case measure => simp [intOf]; omega
              · have t5 : decide ((0 : Int) < (nd.f1.length : Int)) = false := decide_eq_false (by omega)
                have t5z : nd.f1.length ≤ 0 := by omega
                have HFn : Aside0 (fullN (c.nodes.take (k + 1)) = fullN (c.nodes.take k)) := ⟨by rw [HSn.out, if_neg hp]; rfl⟩
                clear hp
                go_wp2_with fail
                go_round
                case rel => exact ⟨k + 1, by omega, by go_num, by rw [HFn.out], HZn⟩
                case measure => simp [intOf]; omega
            · have HF := Aside0.mk (check_zone HN.out HSet.out.1 HSet.out.2 HCo.out (fun h => hzo (h nd HMem.out)))
              by_cases h0 : nd.f0 < 0
              · have t3 : decide (nd.f0 < 0) = true := decide_eq_true h0
                clear hzo h0
                go_wp2_with fail
                go_ret
                exact ⟨ret_i64 HF.out.symm, HB3.out⟩
              · have t3 : decide (nd.f0 < 0) = false := decide_eq_false h0
                have t4 : decide ((8 : Int) ≤ nd.f0) = true := decide_eq_true (by omega)
                clear hzo h0
                go_wp2_with fail
                go_ret
                exact ⟨ret_i64 HF.out.symm, HB3.out⟩
          · have hfl3 : c.nodes.take k = c.nodes := List.take_of_length_le (by omega)
            rw [hfl3] at HZ hfl hfl2
            rw [hfl3]
            have HRest := Aside0.mk (check_rest HN.out HSet.out.1 HSet.out.2 HCo.out HZ.out)
            obtain ⟨hf1a, hf1b⟩ := HSet.out.1.f1
            obtain ⟨hf3a, hf3b⟩ := HSet.out.1.f3
            clear hfl3
            go_wp2_with (first | ((with_reducible refine gate_dst (N := 55) rfl ?_); refine wpList_load_row rfl 24 (.tmp 1) rfl gb rfl 24 (c.cells A cap) (0, 0) _ HX3.out Tryd.underlying24 rfl (by kernel_rfl) ?_))
            go_at_call 38
            refine (dealt_calls c A cap w3 (Kd.C_below HR'.out HB3.out) hok (by omega)).mono ?_
            rintro e w4 ⟨rfl, hb4⟩
            have HB4 := Aside0.mk (below_step HB3.out hb4)
            have HX4 := Aside0.mk (blk_below HX3.out hb4)
            clear hb4 hc22 HB3 HX3
            cases hd : dealtB c.nodes with
            | false =>
              have HF := Aside0.mk (HRest.out.1 (dealtB_false hd))
              clear hd
              go_wp2_with fail
              go_ret
              exact ⟨ret_i64 HF.out.symm, HB4.out⟩
            | true =>
              have HD := Aside0.mk (dealtB_true hd)
              have hP1 := HD.out.1
              have hP2 := HD.out.2.1
              clear hd
              have hc1 : w4.cell? ⟨gb, 1, none⟩ = some (.int .i64 c.f1) := (blk_cell HX4.out 1).trans rfl
              have hc3 : w4.cell? ⟨gb, 3, none⟩ = some (.int .i64 c.f3) := (blk_cell HX4.out 3).trans rfl
              by_cases hfull : (fullN c.nodes : Int) < c.f1
              · have HF := Aside0.mk (HRest.out.2.1 HD.out hfull)
                have t6 : decide ((fullN c.nodes : Int) < c.f1) = true := decide_eq_true hfull
                clear hfull
                go_wp2_with fail
                go_ret
                exact ⟨ret_i64 HF.out.symm, HB4.out⟩
              · have t6 : decide ((fullN c.nodes : Int) < c.f1) = false := decide_eq_false hfull
                obtain ⟨m1, m2⟩ := mul_bd (a := (partsN c.nodes : Int)) (A := 64) (b := c.f1) (B := 16) (by omega) (by omega) (by omega) hf1b
                obtain ⟨m3, m4⟩ := mul_bd (a := (partsN c.nodes : Int) * c.f1) (A := 64 * 16) (b := c.f3) (B := 16) m1 m2 (by omega) hf3b
                go_wp2_with fail
                clear hc1 hc3
                have HB4d := Aside0.mk (below_drew1 HB4.out)
                refine start_ (n := 9) (S := fun w' => w'.heap[gb]? = some (.cells (c.cells A cap) 24 (0, 0))) (ds := []) #[false, false, false, false, false, false, false, false, false] (by kernel_rfl) rfl rfl (blk_drew HX4.out) (fun hHeld => ?_); refine with_tabW rcheck.tab19 rcheck.bits19 (fun HT_ HW_ => ?_)
                generalize w4.drew = w40 at HB4d hHeld ⊢
                refine pure_ (i := 2) (N := some 64) (v := ?_) (a' := ?_) #[false, false, true, false, false, false, false, false, false] rfl rfl (any_of HT_.out (by kernel_rfl)) (fun _ _ _ h => h) (Or.inl ⟨by rfl, ?_⟩) ?_ ?_
                rotate_left
                · intro w'
                  go_simp
                  with_reducible rfl
                rotate_left
                · simp only [Act.put, List.setIfInBounds_toArray, List.set_cons_zero, List.set_cons_succ, i64_w, i32_w]
                  rfl
                refine pure_ (i := 5) (N := some 67) (v := ?_) (a' := ?_) #[false, false, true, false, false, true, false, false, false] rfl rfl (any_of HT_.out (by kernel_rfl)) (fun _ _ _ h => h) (Or.inl ⟨by rfl, ?_⟩) ?_ ?_
                rotate_left
                · intro w'
                  go_simp
                  with_reducible rfl
                rotate_left
                · simp only [Act.put, List.setIfInBounds_toArray, List.set_cons_zero, List.set_cons_succ, i64_w, i32_w]
                  rfl
                refine take_ (i := 0) (N := some 62) (v := ?_) (a' := ?_) #[true, false, true, false, false, true, false, false, false] rfl rfl (take_ofW HT_.out HW_.out (by kernel_rfl)) (fun _ _ _ h => h) (Or.inl ⟨by rfl, ?_⟩) hHeld ?_ ?_
                rotate_left
                · rintro w' hS
                  (refine exec_load_row 24 (.tmp 1) ?_ gb ?_ (c.cells A cap) 24 hS _ Tryd.underlying24 ?_ infoClu; all_goals rfl)
                rotate_left
                · simp only [Act.put, List.setIfInBounds_toArray, List.set_cons_zero, List.set_cons_succ, i64_w, i32_w]
                  rfl
                refine take_ (i := 3) (N := some 65) (v := ?_) (a' := ?_) #[true, false, true, true, false, true, false, false, false] rfl rfl (take_ofW HT_.out HW_.out (by kernel_rfl)) (fun _ _ _ h => h) (Or.inl ⟨by rfl, ?_⟩) hHeld ?_ ?_
                rotate_left
                · rintro w' hS
                  (have h1 : w'.cell? ⟨gb, 1, none⟩ = some (.int .i64 c.f1) := (blk_cell hS 1).trans rfl; go_simp; with_reducible rfl)
                rotate_left
                · simp only [Act.put, List.setIfInBounds_toArray, List.set_cons_zero, List.set_cons_succ, i64_w, i32_w]
                  rfl
                refine take_ (i := 6) (N := some 68) (v := ?_) (a' := ?_) #[true, false, true, true, false, true, true, false, false] rfl rfl (take_ofW HT_.out HW_.out (by kernel_rfl)) (fun _ _ _ h => h) (Or.inl ⟨by rfl, ?_⟩) hHeld ?_ ?_
                rotate_left
                · rintro w' hS
                  (have h1 : w'.cell? ⟨gb, 3, none⟩ = some (.int .i64 c.f3) := (blk_cell hS 3).trans rfl; go_simp; with_reducible rfl)
                rotate_left
                · simp only [Act.put, List.setIfInBounds_toArray, List.set_cons_zero, List.set_cons_succ, i64_w, i32_w]
                  rfl
                refine one_ (i := 1) (N := some 63) #[true, true, true, true, false, true, true, false, false] rfl rfl (one_of HT_.out (by kernel_rfl)) (by decide) (fun K hK => ?_)
                refine goes_ Tryd.func39 (by kernel_rfl) rfl #[.agg (c.cells A cap)] (by rfl) rfl rfl (by (try simp only [List.map_toArray, List.map_cons, List.map_nil]); first | done | rfl) ?_
                refine (parts_calls c A cap w40 (Kd.C_below HR'.out HB4d.out) hok (by omega)).mono ?_
                rintro e w5 ⟨rfl, hb5⟩
                refine ⟨_, rfl, ?_⟩
                have HB5 := Aside0.mk (below_step HB4d.out hb5)
                have hx5 := blk_below hHeld hb5
                refine hK.out _ _ hx5 (fun hHeld => ?_)
                clear hK K
                refine norm_ (a' := ?_) ?_ ?_
                rotate_left
                · show Act.put _ (some 63) _ = _
                  simp only [Act.put, List.setIfInBounds_toArray, List.set_cons_zero, List.set_cons_succ, i64_w, i32_w]
                  rfl
                refine pure_ (i := 4) (N := some 66) (v := ?_) (a' := ?_) #[true, true, true, true, true, true, true, false, false] rfl rfl (any_of HT_.out (by kernel_rfl)) (fun _ _ _ h => h) (Or.inl ⟨by rfl, ?_⟩) ?_ ?_
                rotate_left
                · intro w'
                  go_simp
                  with_reducible rfl
                rotate_left
                · simp only [Act.put, List.setIfInBounds_toArray, List.set_cons_zero, List.set_cons_succ, i64_w, i32_w]
                  rfl
                refine pure_ (i := 7) (N := some 69) (v := ?_) (a' := ?_) #[true, true, true, true, true, true, true, true, false] rfl rfl (any_of HT_.out (by kernel_rfl)) (fun _ _ _ h => h) (Or.inl ⟨by rfl, ?_⟩) ?_ ?_
                rotate_left
                · intro w'
                  go_simp
                  with_reducible rfl
                rotate_left
                · simp only [Act.put, List.setIfInBounds_toArray, List.set_cons_zero, List.set_cons_succ, i64_w, i32_w]
                  rfl
                refine pure_ (i := 8) (N := some 70) (v := ?_) (a' := ?_) #[true, true, true, true, true, true, true, true, true] rfl rfl (any_of HT_.out (by kernel_rfl)) (fun _ _ _ h => h) (Or.inl ⟨by rfl, ?_⟩) ?_ ?_
                rotate_left
                · intro w'
                  go_simp
                  with_reducible rfl
                rotate_left
                · simp only [Act.put, List.setIfInBounds_toArray, List.set_cons_zero, List.set_cons_succ, i64_w, i32_w]
                  rfl
                refine done_ (done_of HT_.out (by kernel_rfl)) ?_
                have e1 : wrap64 ((partsN c.nodes : Int) * c.f1) = (partsN c.nodes : Int) * c.f1 := by unfold wrap64; omega
                have e2 : wrap64 ((partsN c.nodes : Int) * c.f1 * c.f3) = (partsN c.nodes : Int) * c.f1 * c.f3 := by unfold wrap64; omega
                by_cases hbig : 512 < (partsN c.nodes : Int) * c.f1 * c.f3
                · have HF := Aside0.mk (HRest.out.2.2.1 HD.out (by omega) hbig)
                  have t7 : decide (512 < wrap64 (wrap64 ((partsN c.nodes : Int) * c.f1) * c.f3)) = true := decide_eq_true (by rw [e1, e2]; exact hbig)
                  clear e1 e2 m1 m2 m3 m4
                  clear hfull hbig
                  go_wp2_with fail
                  all_goals first
                    | (exfalso; have := of_decide_eq_true t7; omega)
                    | (go_ret; exact ⟨ret_i64 HF.out.symm, HB5.out⟩)
                · have HF := Aside0.mk (HRest.out.2.2.2 HD.out (by omega) (by omega))
                  have t7 : decide (512 < wrap64 (wrap64 ((partsN c.nodes : Int) * c.f1) * c.f3)) = false := decide_eq_false (by rw [e1, e2]; exact hbig)
                  clear e1 e2 m1 m2 m3 m4
                  clear hfull hbig
                  go_wp2_with fail
                  all_goals first
                    | (exfalso; have := of_decide_eq_false t7; omega)
                    | (go_ret; exact ⟨ret_i64 HF.out.symm, HB5.out⟩)
      · have HF := Aside0.mk (check_count HN.out HSet.out.1 HSet.out.2 hcount)
        by_cases h1 : c.nodes.length < 1
        · have t1 : decide ((c.nodes.length : Int) < 1) = true := decide_eq_true (by omega)
          clear hcount
          go_wp2_with fail
          all_goals
            go_ret
            exact ⟨ret_i64 HF.out.symm, HB3.out⟩
        · have t1 : decide ((c.nodes.length : Int) < 1) = false := decide_eq_false (by omega)
          have t2 : decide ((16 : Int) < (c.nodes.length : Int)) = true := decide_eq_true (by omega)
          clear hcount
          go_wp2_with fail
          all_goals
            go_ret
            exact ⟨ret_i64 HF.out.symm, HB3.out⟩
end Go.Proofs.YtkcpeanimmjajaaDoor.Ring
