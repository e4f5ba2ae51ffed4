import Derived.Test.YtkcpeanimmjajaaDoorSpec
namespace Go.Proofs.YtkcpeanimmjajaaDoor.Ring
open Go.RowKit Go.Proofs.YtkcpeanimmjajaaDoorW.PrintWords Go.Proofs.YtkcpeanimmjajaaDoorW.PrintLast Go.Proofs.YtkcpeanimmjajaaDoorW.PrintMore Go.Proofs.YtkcpeanimmjajaaDoor.PRingWalks
set_option linter.unusedVariables false

/-- What checked hands back. -/
def CheckedPost (c : Clu) (w : World) (e : Ending) (w' : World) : Prop :=
  (checkN c ≠ 0 ∧ e = .returned (.tuple #[.slice none 0 0, .int .i64 (checkN c)]) ∧ Below w.heap.size w w') ∨
  (checkN c = 0 ∧ ∃ g H, e = .returned (.tuple #[.slice (some ⟨g, 0, none⟩) (partsN c.nodes) (partsN c.nodes), .int .i64 0]) ∧ HomesOf c.nodes H ∧ w.heap.size ≤ g ∧ w'.heap[g]? = some (.cells (intCells H) 3 (0, 0)) ∧ Below w.heap.size w w')
theorem checked_no {c : Clu} {w w' : World} {n : Int} (h : checkN c = n) (hn : n ≠ 0) (hb : Below w.heap.size w w') : CheckedPost c w (.returned (.tuple #[.slice none 0 0, .int .i64 n])) w' :=
  .inl ⟨by rw [h]; exact hn, by rw [h], hb⟩

set_option maxHeartbeats 8000000 in
set_option maxRecDepth 100000 in
theorem checked_calls (c : Clu) (A : Option Addr) (cap : Nat) (w : World) (HR : Kd.C kN w A c.nodes.length c.nodes) (hok : c.ok) :
    Calls Tryd.prog 35 #[.agg (c.cells A cap)] w (CheckedPost c w) := by
  have HR' := Aside0.mk HR
  clear HR
  go_enter Tryd.func35, Tryd.ntmps35
  go_wp2_with (first | ((with_reducible refine gate_dst (N := 1) rfl ?_); refine new_event ?hg (N := 1) ?hd (c.cells A cap) 24 ?hr ?_; (case hd => rfl); (case hg => rfl); (case hr => first | (go_simp; done) | (go_simp; rfl)); intro gb w1 GE HX HB; have hc0 : w1.cell? ⟨gb, 0, none⟩ = some (.string c.store) := (blk_cell HX.out 0).trans rfl))
  go_at_call 66
  refine (nameOK_calls c.store w1 hok.1).mono ?_
  rintro e w2 ⟨rfl, hb2⟩
  have HB2 := Aside0.mk (below_step HB.out hb2)
  have HX2 := Aside0.mk (blk_below HX.out hb2)
  clear hb2 hc0 HB HX
  cases hname : nameB c.store with
  | false =>
    have HF := Aside0.mk (check_name hname)
    clear hname
    go_wp2_with fail
    go_ret2
    exact checked_no HF.out (by decide) HB2.out
  | true =>
    have HN := Aside0.mk hname
    clear hname
    go_wp2_with fail
    go_at_call 55
    refine (settings_calls w2).mono ?_
    rintro e w3 ⟨gs, rfl, hgs, hxs, hb3⟩
    have HB3 := Aside0.mk (below_step HB2.out hb3)
    have HX3 := Aside0.mk (blk_below HX2.out hb3)
    have HXs := Aside0.mk hxs
    clear hb3 HB2 HX2 hgs hxs
    go_wp2_with fail
    go_loopw [17] (fun v wr => ∃ k : Nat, k ≤ 21 ∧ v = .int .i64 k ∧ Aside0 (∀ i v, i < k → c.vals[i]? = some v → setLeast.getD i 0 ≤ v ∧ v ≤ setMost.getD i 0) ∧ Aside0 (wr.heap[gs]? = some (.cells setCells 109 (0, 0))) ∧ Aside0 (wr.heap[gb]? = some (.cells (c.cells A cap) 24 (0, 0))) ∧ Aside0 (Below w.heap.size w wr)) (fun v _ => 21 - (intOf v).toNat)
    case atStart => exact ⟨0, Nat.zero_le _, rfl, ⟨fun i v hi => by omega⟩, HXs, HX3, HB3⟩
    case round =>
      clear HXs HX3 HB3
      obtain ⟨k, hk, rfl, HS, HXs, HX, HB⟩ := hrel
      by_cases hlt : k < 21
      · have hrow : wr.rangeAt gs (k * 4) (setRow k) := fun j v hv => by
          have hj : j < 4 := (List.getElem?_eq_some_iff.1 hv).1
          rw [blk_cell HXs.out, setCells_at k hlt j hj]
          exact hv
        obtain ⟨wd, hwd⟩ : ∃ wd, wd = setWords.getD k ⟨#[]⟩ := ⟨_, rfl⟩
        obtain ⟨le, hle⟩ : ∃ le, le = setLeast.getD k 0 := ⟨_, rfl⟩
        obtain ⟨mo, hmo⟩ : ∃ mo, mo = setMost.getD k 0 := ⟨_, rfl⟩
        unfold setRow at hrow
        rw [← hwd, ← hle, ← hmo] at hrow
        have HLe := Aside0.mk hle
        have HMo := Aside0.mk hmo
        clear hwd hle hmo
        have HRow := Aside0.mk hrow
        clear hrow
        obtain ⟨v, hv⟩ : ∃ v, c.vals[k]? = some v := ⟨_, List.getElem?_eq_getElem (show k < c.vals.length from hlt)⟩
        have HV := Aside0.mk hv
        clear hv
        go_wp2_with (first | ((with_reducible refine gate_dst (N := 20) rfl ?_); refine wpList_load_mid rfl 109 (.tmp 19) rfl gs (k * 4) rfl _ _ HRow.out Tryd.underlying109 rfl (by kernel_rfl) ?_) | ((with_reducible refine gate_dst (N := 5) rfl ?_); refine new_event ?hg (N := 5) ?hd (#[.string ⟨#[]⟩, .int .i64 0, .int .i64 0, .nilFunc]) 109 ?hr ?_; (case hd => rfl); (case hg => rfl); (case hr => first | (go_simp; done) | (go_simp; rfl)); intro gq w4 GQ HXq HB4) | ((with_reducible refine gate_store (t := 109) (p := 5) (v := .tmp 20) rfl ?_); refine store_row_event rfl 109 (.tmp 5) (.tmp 20) rfl gq (#[.string wd, .int .i64 le, .int .i64 mo, .func (.func (78 + k)) #[] #[]]) rfl rfl 109 _ HXq.out ?si rfl ?so ?_; (case si => kernel_rfl); (case so => (first | exact Clu.cells_all _ _ _ | exact intCells_one _ | rfl | simp [Value.oneCell'])); intro w5 HXq5 HG5))
        have hq1 : w5.cell? ⟨gq, 1, none⟩ = some (.int .i64 le) := (blk_cell HXq5.out 1).trans rfl
        have hq2 : w5.cell? ⟨gq, 2, none⟩ = some (.int .i64 mo) := (blk_cell HXq5.out 2).trans rfl
        have hq3 : w5.cell? ⟨gq, 3, none⟩ = some (.func (.func (78 + k)) #[] #[]) := (blk_cell HXq5.out 3).trans rfl
        have HB5 := Aside0.mk (below_row (below_step HB.out HB4.out) (Nat.le_trans HB.out.size GQ.out) HG5.out)
        have HX5 := Aside0.mk (blk_grown (blk_below HX.out HB4.out) HG5.out (fun e => by cases e; have := blk_lt HX.out; have := GQ.out; omega))
        have HXs5 := Aside0.mk (blk_grown (blk_below HXs.out HB4.out) HG5.out (fun e => by cases e; have := blk_lt HXs.out; have := GQ.out; omega))
        have hv : w5.cell? ⟨gb, k + 1, none⟩ = some (.int .i64 v) := (blk_cell HX5.out (k + 1)).trans (cells_vals c A cap k v HV.out)
        clear HX HXs HB HXq HXq5 HB4 HG5
        by_cases hok2 : le ≤ v ∧ v ≤ mo
        · have hd : decide (le ≤ v ∧ v ≤ mo) = true := by simpa using hok2
          have HO := Aside0.mk hok2
          clear hok2
          have hcf := at_enters k hlt
          go_quiet ((first | (go_at_call 40; exact Calls.quiet_of_same (within_calls _ _ _ _)) | exact Calls.quiet_of_same (at_calls k hlt gb _)))
          clear hcf hq1 hq2 hq3 hv
          go_wp2_with fail
          go_roundw
          case rel =>
            refine ⟨k + 1, by omega, by go_num, ⟨fun i u hi hu => ?_⟩, ⟨blk_drewN HXs5.out _⟩, ⟨blk_drewN HX5.out _⟩, ⟨pw_below_drewN HB5.out _⟩⟩
            rcases Nat.lt_succ_iff_lt_or_eq.1 hi with h1 | h1
            · exact HS.out i u h1 hu
            · subst h1
              have e := HV.out
              rw [hu] at e
              cases e
              rw [← HLe.out, ← HMo.out]
              exact HO.out
          case measure => simp [intOf]; omega
        · have hd : decide (le ≤ v ∧ v ≤ mo) = false := by simpa using hok2
          have HF : Aside0 (checkN c = 64) := ⟨check_set HN.out (fun h => hok2 (by have := h k v HV.out; rw [← HLe.out, ← HMo.out] at this; exact this))⟩
          clear hok2
          have hcf := at_enters k hlt
          go_quiet ((first | (go_at_call 40; exact Calls.quiet_of_same (within_calls _ _ _ _)) | exact Calls.quiet_of_same (at_calls k hlt gb _)))
          clear hcf hq1 hq2 hq3 hv
          go_wp2_with fail
          go_ret2
          exact checked_no HF.out (by decide) (pw_below_drewN HB5.out _)
      · have HSet : Aside0 (SetOK c) := ⟨fun i v hv => HS.out i v (by have : i < 21 := (List.getElem?_eq_some_iff.1 hv).1; omega) hv⟩
        clear HS HXs
        by_cases hmore : c.f8 < c.f5 ∨ c.f11 < c.f10
        · have HF := Aside0.mk (check_more HN.out HSet.out hmore)
          have hc5 : wr.cell? ⟨gb, 5, none⟩ = some (.int .i64 c.f5) := (blk_cell HX.out 5).trans rfl
          have hc8 : wr.cell? ⟨gb, 8, none⟩ = some (.int .i64 c.f8) := (blk_cell HX.out 8).trans rfl
          have hc10 : wr.cell? ⟨gb, 10, none⟩ = some (.int .i64 c.f10) := (blk_cell HX.out 10).trans rfl
          have hc11 : wr.cell? ⟨gb, 11, none⟩ = some (.int .i64 c.f11) := (blk_cell HX.out 11).trans rfl
          by_cases h85 : c.f8 < c.f5
          · have t1 : decide (c.f8 < c.f5) = true := by simpa using h85
            clear hmore h85
            go_wp2_with fail
            go_ret2
            exact checked_no HF.out (by decide) HB.out
          · have t1 : decide (c.f8 < c.f5) = false := by simpa using h85
            have t2 : decide (c.f11 < c.f10) = true := by simp; omega
            clear hmore h85
            go_wp2_with fail
            go_ret2
            exact checked_no HF.out (by decide) HB.out
        · have HM := Aside0.mk hmore
          have t1 : decide (c.f8 < c.f5) = false := by simp; omega
          have t2 : decide (c.f11 < c.f10) = false := by simp; omega
          clear hmore
          have hc5 : wr.cell? ⟨gb, 5, none⟩ = some (.int .i64 c.f5) := (blk_cell HX.out 5).trans rfl
          have hc8 : wr.cell? ⟨gb, 8, none⟩ = some (.int .i64 c.f8) := (blk_cell HX.out 8).trans rfl
          have hc10 : wr.cell? ⟨gb, 10, none⟩ = some (.int .i64 c.f10) := (blk_cell HX.out 10).trans rfl
          have hc11 : wr.cell? ⟨gb, 11, none⟩ = some (.int .i64 c.f11) := (blk_cell HX.out 11).trans rfl
          have hc22 : wr.cell? ⟨gb, 22, none⟩ = some (.slice A c.nodes.length cap) := (blk_cell HX.out 22).trans rfl
          go_wp2_with fail
          refine (within_calls _ _ _ _).mono ?_
          rintro e w' ⟨rfl, rfl⟩
          clear hc5 hc8 hc10 hc11
          by_cases hcount : 1 ≤ c.nodes.length ∧ c.nodes.length ≤ 16
          · have t3 : decide ((1 : Int) ≤ (c.nodes.length : Int) ∧ (c.nodes.length : Int) ≤ 16) = true := by simp; omega
            rw [t3]
            have HCo := Aside0.mk hcount
            obtain ⟨hn1, hn16⟩ := hcount
            go_wp2_with fail
            clear hc22
            go_loopw [6, 53] (fun v i wr => ∃ k : Nat, k ≤ c.nodes.length ∧ i = .int .i64 k ∧ v = .int .i64 (fullN (c.nodes.take k)) ∧ Aside0 (ZonesOK (c.nodes.take k)) ∧ Aside0 (wr.heap[gb]? = some (.cells (c.cells A cap) 24 (0, 0))) ∧ Aside0 (Below w.heap.size w wr)) (fun _ i _ => c.nodes.length - (intOf i).toNat)
            case atStart => exact ⟨0, Nat.zero_le _, rfl, rfl, ⟨fun nd h => by simp at h⟩, HX, HB⟩
            case round =>
              clear HX HB
              obtain ⟨k, hk, rfl, rfl, HZ, HX, HB⟩ := hrel
              have hfl := fullN_le (c.nodes.take k)
              have hfl2 : (c.nodes.take k).length ≤ k := List.length_take_le _ _
              by_cases hlt : k < c.nodes.length
              · obtain ⟨ad, A1, c1, nd, rfl, hnd, hz0w, hz1w, hl1, hC1⟩ := node_at HR'.out k hlt
                have hz0 := pw_cell_below HB.out hz0w
                have hz1 := pw_cell_below HB.out hz1w
                have HMem := Aside0.mk (List.mem_of_getElem? hnd)
                have HSn := Aside0.mk (fullN_snoc c.nodes k nd hnd)
                have HTk : Aside0 (c.nodes.take (k + 1) = c.nodes.take k ++ [nd]) := ⟨by
                  obtain ⟨h1, h2⟩ := List.getElem?_eq_some_iff.1 hnd
                  rw [List.take_succ_eq_append_getElem h1, h2]⟩
                clear hnd hC1 hz0w hz1w
                go_wp2_with (first | ((with_reducible refine gate_dst (N := 8) rfl ?_); refine new_event ?hg (N := 8) ?hd (#[.int .i64 0, .slice none 0 0]) 56 ?hr ?_; (case hd => rfl); (case hg => rfl); (case hr => first | (go_simp; done) | (go_simp; rfl)); intro gn w7 GN HXn HB7; clear hz0 hz1) | ((with_reducible refine gate_store (t := 56) (p := 8) (v := .tmp 56) rfl ?_); refine store_row_event rfl 56 (.tmp 8) (.tmp 56) rfl gn (#[.int .i64 nd.f0, .slice A1 nd.f1.length c1]) rfl rfl 56 _ HXn.out ?si rfl ?so ?_; (case si => kernel_rfl); (case so => (first | exact Clu.cells_all _ _ _ | exact intCells_one _ | rfl | simp [Value.oneCell'])); intro w8 HXn8 HG8; have hs0 : w8.cell? ⟨gn, 0, none⟩ = some (.int .i64 nd.f0) := (blk_cell HXn8.out 0).trans rfl; have hs1 : w8.cell? ⟨gn, 1, none⟩ = some (.slice A1 nd.f1.length c1) := (blk_cell HXn8.out 1).trans rfl))
                refine (within_calls _ _ _ _).mono ?_
                rintro e w9 ⟨rfl, rfl⟩
                have HB8 := Aside0.mk (below_row (below_step HB.out HB7.out) (Nat.le_trans HB.out.size GN.out) HG8.out)
                have HX8 := Aside0.mk (blk_grown (blk_below HX.out HB7.out) HG8.out (fun e => by cases e; have := blk_lt HX.out; have := GN.out; omega))
                clear HX HB HB7 HG8 HXn
                by_cases hzo : 0 ≤ nd.f0 ∧ nd.f0 ≤ 7
                · have t4 : decide ((0 : Int) ≤ nd.f0 ∧ nd.f0 ≤ 7) = true := by simpa using hzo
                  rw [t4]
                  have HZo := Aside0.mk hzo
                  clear hzo
                  have HZn : Aside0 (ZonesOK (c.nodes.take (k + 1))) := ⟨fun q hq => by
                    rw [HTk.out, List.mem_append] at hq
                    rcases hq with hq | hq
                    · exact HZ.out q hq
                    · rw [List.mem_singleton.1 hq]; exact HZo.out⟩
                  by_cases hp : 0 < nd.f1.length
                  · have t5 : decide ((0 : Int) < (nd.f1.length : Int)) = true := by simpa using hp
                    have HFn : Aside0 (fullN (c.nodes.take (k + 1)) = fullN (c.nodes.take k) + 1) := ⟨by rw [HSn.out, if_pos hp]⟩
                    go_wp2_with fail
                    go_roundw
                    case rel => exact ⟨k + 1, by omega, by go_num, by rw [HFn.out]; go_num, HZn, HX8, HB8⟩
                    case measure => simp [intOf]; omega
                  · have t5 : decide ((0 : Int) < (nd.f1.length : Int)) = false := decide_eq_false (by omega)
                    have t5n : decide (0 < nd.f1.length) = false := decide_eq_false hp
                    have t5z : nd.f1.length ≤ 0 := by omega
                    have HFn : Aside0 (fullN (c.nodes.take (k + 1)) = fullN (c.nodes.take k)) := ⟨by rw [HSn.out, if_neg hp]; rfl⟩
                    clear hp
                    go_wp2_with fail
                    go_roundw
                    case rel => exact ⟨k + 1, by omega, by go_num, by rw [HFn.out], HZn, HX8, HB8⟩
                    case measure => simp [intOf]; omega
                · have t4 : decide ((0 : Int) ≤ nd.f0 ∧ nd.f0 ≤ 7) = false := by simpa using hzo
                  rw [t4]
                  have HF := Aside0.mk (check_zone HN.out HSet.out HM.out HCo.out (fun h => hzo (h nd HMem.out)))
                  clear hzo
                  go_wp2_with fail
                  go_ret2
                  exact checked_no HF.out (by decide) HB8.out
              · have hfl3 : c.nodes.take k = c.nodes := List.take_of_length_le (by omega)
                rw [hfl3] at HZ hfl hfl2
                rw [hfl3]
                have HRest := Aside0.mk (check_rest HN.out HSet.out HM.out HCo.out HZ.out)
                obtain ⟨hf1a, hf1b⟩ := HSet.out.f1
                obtain ⟨hf3a, hf3b⟩ := HSet.out.f3
                clear hfl3
                go_wp2_with (first | ((with_reducible refine gate_dst (N := 69) rfl ?_); refine wpList_load_row rfl 24 (.tmp 1) rfl gb rfl 24 (c.cells A cap) (0, 0) _ HX.out Tryd.underlying24 rfl (by kernel_rfl) ?_))
                go_at_call 67
                refine (homes_calls c A cap _ (Kd.C_below HR'.out HB.out) hok (by omega)).mono ?_
                rintro e w9 hpost
                rcases hpost with ⟨hnd, rfl, hb9⟩ | ⟨hd, g, H, rfl, hH, hg, hxg, hb9⟩
                · have HF := Aside0.mk (HRest.out.1 hnd)
                  have HB9 := Aside0.mk (below_step HB.out hb9)
                  clear hnd hb9
                  go_wp2_with fail
                  go_ret2
                  exact checked_no HF.out (by decide) HB9.out
                · have HB9 := Aside0.mk (below_step HB.out hb9)
                  have HX9 := Aside0.mk (blk_below HX.out hb9)
                  have HHg := Aside0.mk hH
                  have HXg := Aside0.mk hxg
                  have GG := Aside0.mk (Nat.le_trans HB.out.size hg)
                  have HD := Aside0.mk hd
                  have hP1 := hd.1
                  have hP2 := hd.2.1
                  obtain ⟨m1, m2⟩ := mul_bd (a := (partsN c.nodes : Int)) (A := 64) (b := c.f1) (B := 16) (by omega) (by omega) (by omega) hf1b
                  obtain ⟨m3, m4⟩ := mul_bd (a := (partsN c.nodes : Int) * c.f1) (A := 64 * 16) (b := c.f3) (B := 16) m1 m2 (by omega) hf3b
                  clear hd hH hg hxg hb9
                  have hc1 : w9.cell? ⟨gb, 1, none⟩ = some (.int .i64 c.f1) := (blk_cell HX9.out 1).trans rfl
                  have hc3 : w9.cell? ⟨gb, 3, none⟩ = some (.int .i64 c.f3) := (blk_cell HX9.out 3).trans rfl
                  by_cases hfull : (fullN c.nodes : Int) < c.f1
                  · have HF := Aside0.mk (HRest.out.2.1 HD.out hfull)
                    have t6 : decide ((fullN c.nodes : Int) < c.f1) = true := by simpa using hfull
                    clear hfull
                    go_wp2_with fail
                    go_ret2
                    exact checked_no HF.out (by decide) HB9.out
                  · have t6 : decide ((fullN c.nodes : Int) < c.f1) = false := by simpa using hfull
                    by_cases hbig : 512 < (partsN c.nodes : Int) * c.f1 * c.f3
                    · have HF := Aside0.mk (HRest.out.2.2.1 HD.out (by omega) hbig)
                      have t7 : decide (512 < (partsN c.nodes : Int) * c.f1 * c.f3) = true := by simpa using hbig
                      clear hfull hbig
                      go_wp2_with fail
                      go_ret2
                      exact checked_no HF.out (by decide) HB9.out
                    · have HF := Aside0.mk (HRest.out.2.2.2 HD.out (by omega) (by omega))
                      have t7 : decide (512 < (partsN c.nodes : Int) * c.f1 * c.f3) = false := by simpa using hbig
                      clear hfull hbig
                      go_wp2_with fail
                      go_ret2
                      exact .inr ⟨HF.out, g, H, rfl, HHg.out, GG.out, HXg.out, HB9.out⟩
          · have HF := Aside0.mk (check_count HN.out HSet.out HM.out hcount)
            have t3 : decide ((1 : Int) ≤ (c.nodes.length : Int) ∧ (c.nodes.length : Int) ≤ 16) = false := by simp; omega
            rw [t3]
            clear hcount
            go_wp2_with fail
            go_ret2
            exact checked_no HF.out (by decide) HB.out
end Go.Proofs.YtkcpeanimmjajaaDoor.Ring
