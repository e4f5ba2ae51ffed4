import Derived.Test.YtkcpeanimmjajaaDoorCheck
import Derived.Test.YtkcpeanimmjajaaDoorBase
namespace Go.Proofs.YtkcpeanimmjajaaDoor.Ring
open Go.RowKit Go.Proofs.YtkcpeanimmjajaaDoorW.PrintWords Go.Proofs.YtkcpeanimmjajaaDoorW.PrintLast Go.Proofs.YtkcpeanimmjajaaDoorW.PrintMore Go.Proofs.YtkcpeanimmjajaaDoor.PRingWalks
set_option linter.unusedVariables false

/-- The reference's table of the greatest values lies in its variable. -/
def Great (w : World) : Prop := ∀ i v, setMost[i]? = some v → w.cell? ⟨1, i, none⟩ = some (.int .i64 v)
theorem Great.below {w w1 : World} (h : Great w) (hb : Below w.heap.size w w1) : Great w1 := fun i v hv => pw_cell_below hb (h i v hv)
noncomputable def setB (c : Clu) : Bool := @decide (SetOK c ∧ ¬ (c.f8 < c.f5 ∨ c.f11 < c.f10)) (Classical.propDecidable _)
theorem setB_yes {c : Clu} (h : SetOK c ∧ ¬ (c.f8 < c.f5 ∨ c.f11 < c.f10)) : setB c = true := by unfold setB; exact @decide_eq_true _ (Classical.propDecidable _) h
theorem setB_no {c : Clu} (h : ¬ (SetOK c ∧ ¬ (c.f8 < c.f5 ∨ c.f11 < c.f10))) : setB c = false := by unfold setB; exact @decide_eq_false _ (Classical.propDecidable _) h
theorem least_at (i : Nat) (h : i < 21) : setLeast.getD i 0 = if i < 20 then 1 else 0 := by
  have hi : i = 0 ∨ i = 1 ∨ i = 2 ∨ i = 3 ∨ i = 4 ∨ i = 5 ∨ i = 6 ∨ i = 7 ∨ i = 8 ∨ i = 9 ∨ i = 10 ∨ i = 11 ∨ i = 12 ∨ i = 13 ∨ i = 14 ∨ i = 15 ∨ i = 16 ∨ i = 17 ∨ i = 18 ∨ i = 19 ∨ i = 20 := by omega
  rcases hi with rfl | rfl | rfl | rfl | rfl | rfl | rfl | rfl | rfl | rfl | rfl | rfl | rfl | rfl | rfl | rfl | rfl | rfl | rfl | rfl | rfl <;> rfl

set_option maxHeartbeats 8000000 in
set_option maxRecDepth 100000 in
theorem rset_calls (c : Clu) (A : Option Addr) (cap : Nat) (w : World) (hG : Great w) :
    Calls Tryd.prog 37 #[.agg (c.cells A cap)] w fun e w' => e = .returned (.bool (setB c)) ∧ Below w.heap.size w w' := by
  have HG := Aside0.mk hG
  clear hG
  go_enter Tryd.func37, Tryd.ntmps37
  go_wp2_with (first | ((with_reducible refine gate_dst (N := 1) rfl ?_); refine new_event ?hg (N := 1) ?hd (c.cells A cap) 24 ?hr ?_; (case hd => rfl); (case hg => rfl); (case hr => first | (go_simp; done) | (go_simp; rfl)); intro gb w1 GE HX HB) | ((with_reducible refine gate_dst (N := 5) rfl ?_); refine wpList_load_row rfl 24 (.tmp 1) rfl gb rfl 24 (c.cells A cap) (0, 0) _ HX.out Tryd.underlying24 rfl (by kernel_rfl) ?_))
  go_at_call 58
  refine (values_calls c A cap w1).mono ?_
  rintro e w2 ⟨rfl, hb2⟩
  have HB2 := Aside0.mk (below_step HB.out hb2)
  have HX2 := Aside0.mk (blk_below HX.out hb2)
  clear hb2 HX HB
  go_wp2_with (first | ((with_reducible refine gate_dst (N := 3) rfl ?_); refine new_event ?hg (N := 3) ?hd (Array.replicate 21 (.int .i64 0)) 88 ?hr ?_; (case hd => rfl); (case hg => rfl); (case hr => first | (go_simp; done) | (go_simp; rfl)); intro gv w3 GV HV HB3) | ((with_reducible refine gate_store (t := 88) (p := 3) (v := .tmp 6) rfl ?_); refine store_row_event rfl 88 (.tmp 3) (.tmp 6) rfl gv (intCells c.vals) rfl rfl 88 _ HV.out ?si rfl ?so ?_; (case si => kernel_rfl); (case so => (first | exact Clu.cells_all _ _ _ | exact intCells_one _ | rfl | simp [Value.oneCell'])); intro w4 HV4 HG4))
  have HB4 := Aside0.mk (below_row (below_step HB2.out HB3.out) (Nat.le_trans HB2.out.size GV.out) HG4.out)
  have HX4 := Aside0.mk (blk_grown (blk_below HX2.out HB3.out) HG4.out (fun e => by cases e; have := blk_lt HX2.out; have := GV.out; omega))
  clear HB2 HX2 HB3 HG4 HV
  go_loopw [4] (fun v wr => ∃ k : Nat, k ≤ 21 ∧ v = .int .i64 k ∧ Aside0 (∀ i v, i < k → c.vals[i]? = some v → setLeast.getD i 0 ≤ v ∧ v ≤ setMost.getD i 0) ∧ Aside0 (wr.heap[gv]? = some (.cells (intCells c.vals) 88 (0, 0))) ∧ Aside0 (wr.heap[gb]? = some (.cells (c.cells A cap) 24 (0, 0))) ∧ Aside0 (Below w.heap.size w wr)) (fun v _ => 21 - (intOf v).toNat)
  case atStart => exact ⟨0, Nat.zero_le _, rfl, ⟨fun i v hi => by omega⟩, HV4, HX4, HB4⟩
  case round =>
    clear HV4 HX4 HB4
    obtain ⟨k, hk, rfl, HS, HV, HX, HB⟩ := hrel
    by_cases hlt : k < 21
    · obtain ⟨v, hv⟩ : ∃ v, c.vals[k]? = some v := ⟨_, List.getElem?_eq_getElem (show k < c.vals.length from hlt)⟩
      obtain ⟨mo, hmo⟩ : ∃ mo, setMost[k]? = some mo := ⟨_, List.getElem?_eq_getElem (show k < setMost.length from hlt)⟩
      have hzv : wr.cell? ⟨gv, k, none⟩ = some (.int .i64 v) := (blk_cell HV.out k).trans (intCells_get hv)
      have hzm : wr.cell? ⟨1, k, none⟩ = some (.int .i64 mo) := (HG.out.below HB.out) k mo hmo
      have HMo : Aside0 (setMost.getD k 0 = mo) := ⟨by rw [List.getD_eq_getElem?_getD, hmo]; rfl⟩
      have HLe := Aside0.mk (least_at k hlt)
      have HVk := Aside0.mk hv
      clear hv hmo
      have hk0 : (0 : Int) ≤ (k : Int) := by omega
      have hk21 : (k : Int) < 21 := by omega
      go_wp2_with fail
      have HBad : Aside0 (¬ (setLeast.getD k 0 ≤ v ∧ v ≤ setMost.getD k 0) → setB c = false) := ⟨fun h => setB_no (fun h2 => h (h2.1 k v HVk.out))⟩
      by_cases c1 : v < 0
      · have HF : Aside0 (setB c = false) := ⟨HBad.out (by rw [HLe.out]; split <;> omega)⟩
        have t1 : decide (v < 0) = true := decide_eq_true c1
        clear c1
        · go_quiet (fail)
          clear hzv hzm
          go_wp2_with fail
          go_ret
          exact ⟨ret_bool HF.out.symm, pw_below_drewN HB.out _⟩
      · have t1 : decide (v < 0) = false := decide_eq_false c1
        by_cases c2 : mo < v
        · have HF : Aside0 (setB c = false) := ⟨HBad.out (by rw [HMo.out]; omega)⟩
          have t2 : decide (mo < v) = true := decide_eq_true c2
          clear c1 c2
          go_quiet (fail)
          clear hzv hzm
          go_wp2_with fail
          go_ret
          exact ⟨ret_bool HF.out.symm, pw_below_drewN HB.out _⟩
        · have t2 : decide (mo < v) = false := decide_eq_false c2
          by_cases c3 : v = 0
          · have t3 : (v == 0) = true := beq_iff_eq.2 c3
            by_cases c4 : k < 20
            · have HF : Aside0 (setB c = false) := ⟨HBad.out (by rw [HLe.out, if_pos c4]; omega)⟩
              have t4 : decide ((k : Int) < 20) = true := decide_eq_true (by omega)
              clear c1 c2 c3 c4
              go_quiet (fail)
              clear hzv hzm
              go_wp2_with fail
              go_ret
              exact ⟨ret_bool HF.out.symm, pw_below_drewN HB.out _⟩
            · have HOk : Aside0 (setLeast.getD k 0 ≤ v ∧ v ≤ setMost.getD k 0) := ⟨by rw [HLe.out, HMo.out, if_neg c4]; omega⟩
              have t4 : decide ((k : Int) < 20) = false := decide_eq_false (by omega)
              clear c1 c2 c3 c4
              go_quiet (fail)
              clear hzv hzm
              go_wp2_with fail
              go_roundw
              case rel =>
                refine ⟨k + 1, by omega, by go_num, ⟨fun i u hi hu => ?_⟩, ⟨blk_drewN HV.out _⟩, ⟨blk_drewN HX.out _⟩, ⟨pw_below_drewN HB.out _⟩⟩
                rcases Nat.lt_succ_iff_lt_or_eq.1 hi with h1 | h1
                · exact HS.out i u h1 hu
                · subst h1
                  have e := HVk.out
                  rw [hu] at e
                  cases e
                  exact HOk.out
              case measure => simp [intOf]; omega
          · have t3 : (v == 0) = false := beq_eq_false_iff_ne.2 c3
            have HOk : Aside0 (setLeast.getD k 0 ≤ v ∧ v ≤ setMost.getD k 0) := ⟨by rw [HLe.out, HMo.out]; split <;> omega⟩
            clear c1 c2 c3
            go_quiet (fail)
            clear hzv hzm
            go_wp2_with fail
            go_roundw
            case rel =>
              refine ⟨k + 1, by omega, by go_num, ⟨fun i u hi hu => ?_⟩, ⟨blk_drewN HV.out _⟩, ⟨blk_drewN HX.out _⟩, ⟨pw_below_drewN HB.out _⟩⟩
              rcases Nat.lt_succ_iff_lt_or_eq.1 hi with h1 | h1
              · exact HS.out i u h1 hu
              · subst h1
                have e := HVk.out
                rw [hu] at e
                cases e
                exact HOk.out
            case measure => simp [intOf]; omega
    · have HSet : Aside0 (SetOK c) := ⟨fun i v hv => HS.out i v (by have : i < 21 := (List.getElem?_eq_some_iff.1 hv).1; omega) hv⟩
      have hc5 : wr.cell? ⟨gb, 5, none⟩ = some (.int .i64 c.f5) := (blk_cell HX.out 5).trans rfl
      have hc8 : wr.cell? ⟨gb, 8, none⟩ = some (.int .i64 c.f8) := (blk_cell HX.out 8).trans rfl
      have hc10 : wr.cell? ⟨gb, 10, none⟩ = some (.int .i64 c.f10) := (blk_cell HX.out 10).trans rfl
      have hc11 : wr.cell? ⟨gb, 11, none⟩ = some (.int .i64 c.f11) := (blk_cell HX.out 11).trans rfl
      by_cases h1 : c.f5 ≤ c.f8
      · have t1 : decide (c.f5 ≤ c.f8) = true := decide_eq_true h1
        by_cases h2 : c.f10 ≤ c.f11
        · have t2 : decide (c.f10 ≤ c.f11) = true := decide_eq_true h2
          have HF : Aside0 (setB c = true) := ⟨setB_yes ⟨HSet.out, by omega⟩⟩
          clear h1 h2
          go_wp2_with fail
          go_ret
          exact ⟨ret_bool HF.out.symm, HB.out⟩
        · have t2 : decide (c.f10 ≤ c.f11) = false := decide_eq_false h2
          have HF : Aside0 (setB c = false) := ⟨setB_no (fun h => h.2 (by omega))⟩
          clear h1 h2
          go_wp2_with fail
          go_ret
          exact ⟨ret_bool HF.out.symm, HB.out⟩
      · have t1 : decide (c.f5 ≤ c.f8) = false := decide_eq_false h1
        have HF : Aside0 (setB c = false) := ⟨setB_no (fun h => h.2 (by omega))⟩
        clear h1
        go_wp2_with fail
        go_ret
        exact ⟨ret_bool HF.out.symm, HB.out⟩
end Go.Proofs.YtkcpeanimmjajaaDoor.Ring
