import Derived.Test.YtkcpeanimmjajaaDoorRing
import Derived.Test.YtkcpeanimmjajaaDoorRcheck
import Derived.Deep.RegionHeld3
namespace Go.Proofs.YtkcpeanimmjajaaDoor.Ring
open Go.RowKit Go.Proofs.YtkcpeanimmjajaaDoorW.PrintWords Go.Proofs.YtkcpeanimmjajaaDoorW.PrintLast Go.Proofs.YtkcpeanimmjajaaDoorW.PrintMore Go.Proofs.YtkcpeanimmjajaaDoor.PRingWalks
set_option linter.unusedVariables false
set_option linter.unusedSimpArgs false

def rwalk.T10 : Bool × List (List Nat × List Nat) := (true, [([], []), ([], []), ([], []), ([1, 2], [1, 2]), ([], []), ([3, 4], [3, 4]), ([0, 5], [0, 5]), ([], []), ([], []), ([], []), ([8, 9], [8, 9]), ([], []), ([10, 11], [10, 11]), ([7, 12, 6], [7, 12]), ([6, 13], [6, 13])])
def rwalk.B10 : List Nat := [0, 0, 0, 6, 0, 30, 63, 0, 0, 0, 768, 0, 3840, 8191, 16383]
theorem rwalk.tab10 : rtab .any (opsOf Tryd.f42 10) = rwalk.T10 := by kernel_rfl
theorem rwalk.bits10 : waitsOk rwalk.T10.2 rwalk.B10 = true := by kernel_rfl
set_option maxHeartbeats 8000000 in
set_option maxRecDepth 100000 in
theorem rwalk_calls (c : Clu) (A : Option Addr) (cap : Nat) (p0 : Int) (w : World) (HR : Kd.C kN w A c.nodes.length c.nodes) (hok : c.ok) (h0 : checkN c = 0) (hp : There c p0) :
    Calls Tryd.prog 42 #[.agg (c.cells A cap), .int .i64 p0] w fun e w' => ListPost (walkL (HH c.nodes) p0.toNat c.f1.toNat) w e w' := by
  obtain ⟨hd0, hf1, hf2, hn16⟩ := check_ok h0
  obtain ⟨hp0, hp1⟩ := hp
  obtain ⟨part, rfl⟩ := Int.eq_ofNat_of_zero_le hp0
  obtain ⟨R, hR⟩ := Int.eq_ofNat_of_zero_le (show 0 ≤ c.f1 by omega)
  have hH := HH_homes hd0
  obtain ⟨H, hHe⟩ : ∃ H, HH c.nodes = H := ⟨_, rfl⟩
  rw [hHe] at hH ⊢
  rw [Int.toNat_natCast, hR, Int.toNat_natCast]
  have hlen := hH.1
  have hP1 := hd0.1
  have hP2 := hd0.2.1
  rw [← hlen] at hp1 hP1 hP2
  have hr1 : 1 ≤ R := by omega
  have hr2 : R ≤ 16 := by omega
  have HR' := Aside0.mk HR
  have HHo := Aside0.mk hH
  have HD := Aside0.mk hd0
  have HLen := Aside0.mk hlen
  have HFR := Aside0.mk hR
  clear HR h0 hp0 hHe hH hlen hd0 hf1 hf2 hR
  go_enter Tryd.func42, Tryd.ntmps42
  go_wp2_with (first | ((with_reducible refine gate_dst (N := 2) rfl ?_); refine new_event ?hg (N := 2) ?hd (c.cells A cap) 24 ?hr ?_; (case hd => rfl); (case hg => rfl); (case hr => first | (go_simp; done) | (go_simp; rfl)); intro gb w1 GE HX HB) | ((with_reducible refine gate_dst (N := 10) rfl ?_); refine wpList_load_row rfl 24 (.tmp 2) rfl gb rfl 24 (c.cells A cap) (0, 0) _ HX.out Tryd.underlying24 rfl (by kernel_rfl) ?_))
  go_at_call 39
  refine (parts_calls c A cap w1 (Kd.C_below HR'.out HB.out) hok (by omega)).mono ?_
  rintro e w2 ⟨rfl, hb2⟩
  rw [← HLen.out]
  have HB2 := Aside0.mk (below_step HB.out hb2)
  have HX2 := Aside0.mk (blk_below HX.out hb2)
  clear hb2
  go_wp2_with fail
  go_loopw [5, 7] (fun v i wr => ∃ k : Nat, k ≤ H.length ∧ i = .int .i64 k ∧ Aside0 ((Kd.int .i64).R 3 wr w2.heap.size (fun _ => True) v (takenI (rnd H part R k))) ∧ Aside0 (Below w2.heap.size w2 wr)) (fun _ i _ => H.length - (intOf i).toNat)
  case atStart => exact ⟨0, Nat.zero_le _, rfl, ⟨Kd.R_nil _ _ _ _ _⟩, ⟨Below.refl _ _⟩⟩
  case round =>
    obtain ⟨k, hk, rfl, HT, HBr⟩ := hrel
    obtain ⟨m, hm⟩ : ∃ m, (rnd H part R k).length = m := ⟨_, rfl⟩
    have HM := Aside0.mk hm
    have hml := rnd_len H part R k
    have hmR := rnd_R H part R k
    rw [hm] at hml hmR
    obtain ⟨AT, cT, rfl, hcT⟩ := R_slice_n HT.out (n := m) (by unfold takenI; rw [List.length_map]; exact hm)
    clear hm
    have hc1 : wr.cell? ⟨gb, 1, none⟩ = some (.int .i64 (R : Int)) := by
      rw [← HFR.out]
      exact (blk_cell (blk_below HX2.out HBr.out) 1).trans rfl
    by_cases hlt : k < H.length
    · by_cases hmr : m < R
      · have t2 : decide (m < R) = true := decide_eq_true hmr
        go_wp2_with fail
        clear hc1
        obtain ⟨wo, rfl⟩ : ∃ wo : World, wo = wr := ⟨_, rfl⟩
        go_loopw [8, 9] (fun b i wr => ∃ (j : Nat) (bb : Bool), j ≤ k ∧ i = .int .i64 j ∧ b = .bool bb ∧ Aside0 (bb = true ↔ ∀ n, n < j → hd H (pos H part n) ≠ hd H (pos H part k)) ∧ Aside0 (Below w2.heap.size w2 wr) ∧ Aside0 (Below wo.heap.size wo wr)) (fun _ i _ => k - (intOf i).toNat)
        case atStart => exact ⟨0, true, Nat.zero_le _, rfl, rfl, ⟨⟨fun _ n h => by omega, fun _ => rfl⟩⟩, HBr, ⟨Below.refl _ _⟩⟩
        case round =>
          obtain ⟨j, bb, hj, rfl, rfl, HJ, HBi, HBo⟩ := hrel
          by_cases hjk : j < k
          · have XHr := Aside0.mk (blk_below HX2.out HBi.out)
            have hpj := pos_lt (H := H) (by omega) part j
            have hpk := pos_lt (H := H) (by omega) part k
            go_wp2_with fail
            have e1 : IntKind.i64.wrap ((part : Int) + (j : Int)) = (part : Int) + (j : Int) := by rw [IntKind.wrap_i64]; omega
            have e2 : IntKind.i64.wrap ((part : Int) + (k : Int)) = (part : Int) + (k : Int) := by rw [IntKind.wrap_i64]; omega
            have e3 : ((part : Int) + (j : Int)).tmod (H.length : Int) = ((pos H part j : Nat) : Int) := by
              rw [Int.tmod_eq_emod_of_nonneg (by omega)]; unfold pos; rw [Int.natCast_emod, Int.natCast_add]
            have e4 : ((part : Int) + (k : Int)).tmod (H.length : Int) = ((pos H part k : Nat) : Int) := by
              rw [Int.tmod_eq_emod_of_nonneg (by omega)]; unfold pos; rw [Int.natCast_emod, Int.natCast_add]
            have b0 : ((H.length : Int) == 0) = false := beq_eq_false_iff_ne.2 (by omega)
            have hnn : ¬ (H = []) := fun h => by rw [h] at hP1; simp at hP1
            by_cases he : hd H (pos H part j) = hd H (pos H part k)
            · have heb : (hd H (pos H part j) == hd H (pos H part k)) = true := beq_iff_eq.2 he
              have HE := Aside0.mk he
              clear he
              refine start_ (n := 15) (S := fun w' => Below w2.heap.size w2 w' ∧ w'.heap[gb]? = some (.cells (c.cells A cap) 24 (0, 0))) (ds := []) #[false, false, false, false, false, false, false, false, false, false, false, false, false, false, false] (by kernel_rfl) rfl rfl ⟨below_drew1 HBi.out, blk_drew XHr.out⟩ (fun hHeld => ?_); refine with_tabW rwalk.tab10 rwalk.bits10 (fun HT_ HW_ => ?_)
              have HBd := Aside0.mk (below_drew1 HBo.out)
              generalize wr.drew = w40 at hHeld HBd ⊢
              refine pure_ (i := 1) (N := some 30) (v := ?_) (a' := ?_) #[false, true, false, false, false, false, false, false, false, false, false, false, false, false, false] rfl rfl (any_of HT_.out (by kernel_rfl)) (fun _ _ _ h => h) (Or.inl ⟨by rfl, ?_⟩) ?_ ?_
              rotate_left
              · intro w'
                go_simp
                with_reducible rfl
              rotate_left
              · simp only [Act.put, List.setIfInBounds_toArray, List.set_cons_zero, List.set_cons_succ, i64_w, i32_w]
                rfl
              refine pure_ (i := 2) (N := some 31) (v := ?_) (a' := ?_) #[false, true, true, false, false, false, false, false, false, false, false, false, false, false, false] rfl rfl (any_of HT_.out (by kernel_rfl)) (fun _ _ _ h => h) (Or.inl ⟨by rfl, ?_⟩) ?_ ?_
              rotate_left
              · intro w'
                go_simp
                with_reducible rfl
              rotate_left
              · simp only [Act.put, List.setIfInBounds_toArray, List.set_cons_zero, List.set_cons_succ, i64_w, i32_w]
                rfl
              refine pure_ (i := 3) (N := some 32) (v := ?_) (a' := ?_) #[false, true, true, true, false, false, false, false, false, false, false, false, false, false, false] rfl rfl (any_of HT_.out (by kernel_rfl)) (fun _ _ _ h => h) (Or.inl ⟨by rfl, ?_⟩) ?_ ?_
              rotate_left
              · intro w'
                go_simp
                with_reducible rfl
              rotate_left
              · simp only [Act.put, List.setIfInBounds_toArray, List.set_cons_zero, List.set_cons_succ, i64_w, i32_w]
                rfl
              refine pure_ (i := 4) (N := some 33) (v := ?_) (a' := ?_) #[false, true, true, true, true, false, false, false, false, false, false, false, false, false, false] rfl rfl (any_of HT_.out (by kernel_rfl)) (fun _ _ _ h => h) (Or.inl ⟨by rfl, ?_⟩) ?_ ?_
              rotate_left
              · intro w'
                go_simp
                with_reducible rfl
              rotate_left
              · simp only [Act.put, List.setIfInBounds_toArray, List.set_cons_zero, List.set_cons_succ, i64_w, i32_w]
                rfl
              refine pure_ (i := 5) (N := some 34) (v := ?_) (a' := ?_) #[false, true, true, true, true, true, false, false, false, false, false, false, false, false, false] rfl rfl (any_of HT_.out (by kernel_rfl)) (fun _ _ _ h => h) (Or.inl ⟨by rfl, ?_⟩) ?_ ?_
              rotate_left
              · intro w'
                go_simp
                with_reducible rfl
              rotate_left
              · simp only [Act.put, List.setIfInBounds_toArray, List.set_cons_zero, List.set_cons_succ, i64_w, i32_w]
                rfl
              refine pure_ (i := 8) (N := some 37) (v := ?_) (a' := ?_) #[false, true, true, true, true, true, false, false, true, false, false, false, false, false, false] rfl rfl (any_of HT_.out (by kernel_rfl)) (fun _ _ _ h => h) (Or.inl ⟨by rfl, ?_⟩) ?_ ?_
              rotate_left
              · intro w'
                go_simp
                with_reducible rfl
              rotate_left
              · simp only [Act.put, List.setIfInBounds_toArray, List.set_cons_zero, List.set_cons_succ, i64_w, i32_w]
                rfl
              refine pure_ (i := 9) (N := some 38) (v := ?_) (a' := ?_) #[false, true, true, true, true, true, false, false, true, true, false, false, false, false, false] rfl rfl (any_of HT_.out (by kernel_rfl)) (fun _ _ _ h => h) (Or.inl ⟨by rfl, ?_⟩) ?_ ?_
              rotate_left
              · intro w'
                go_simp
                with_reducible rfl
              rotate_left
              · simp only [Act.put, List.setIfInBounds_toArray, List.set_cons_zero, List.set_cons_succ, i64_w, i32_w]
                rfl
              refine pure_ (i := 10) (N := some 39) (v := ?_) (a' := ?_) #[false, true, true, true, true, true, false, false, true, true, true, false, false, false, false] rfl rfl (any_of HT_.out (by kernel_rfl)) (fun _ _ _ h => h) (Or.inl ⟨by rfl, ?_⟩) ?_ ?_
              rotate_left
              · intro w'
                go_simp
                with_reducible rfl
              rotate_left
              · simp only [Act.put, List.setIfInBounds_toArray, List.set_cons_zero, List.set_cons_succ, i64_w, i32_w]
                rfl
              refine pure_ (i := 11) (N := some 40) (v := ?_) (a' := ?_) #[false, true, true, true, true, true, false, false, true, true, true, true, false, false, false] rfl rfl (any_of HT_.out (by kernel_rfl)) (fun _ _ _ h => h) (Or.inl ⟨by rfl, ?_⟩) ?_ ?_
              rotate_left
              · intro w'
                go_simp
                with_reducible rfl
              rotate_left
              · simp only [Act.put, List.setIfInBounds_toArray, List.set_cons_zero, List.set_cons_succ, i64_w, i32_w]
                rfl
              refine pure_ (i := 12) (N := some 41) (v := ?_) (a' := ?_) #[false, true, true, true, true, true, false, false, true, true, true, true, true, false, false] rfl rfl (any_of HT_.out (by kernel_rfl)) (fun _ _ _ h => h) (Or.inl ⟨by rfl, ?_⟩) ?_ ?_
              rotate_left
              · intro w'
                go_simp
                with_reducible rfl
              rotate_left
              · simp only [Act.put, List.setIfInBounds_toArray, List.set_cons_zero, List.set_cons_succ, i64_w, i32_w]
                rfl
              refine take_ (i := 0) (N := some 29) (v := ?_) (a' := ?_) #[true, true, true, true, true, true, false, false, true, true, true, true, true, false, false] rfl rfl (take_ofW HT_.out HW_.out (by kernel_rfl)) (fun _ _ _ h => h) (Or.inl ⟨by rfl, ?_⟩) hHeld ?_ ?_
              rotate_left
              · rintro w' ⟨hS0, hS1⟩
                (refine exec_load_row 24 (.tmp 2) ?_ gb ?_ (c.cells A cap) 24 hS1 _ Tryd.underlying24 ?_ infoClu; all_goals rfl)
              rotate_left
              · simp only [Act.put, List.setIfInBounds_toArray, List.set_cons_zero, List.set_cons_succ, i64_w, i32_w]
                rfl
              refine take_ (i := 7) (N := some 36) (v := ?_) (a' := ?_) #[true, true, true, true, true, true, false, true, true, true, true, true, true, false, false] rfl rfl (take_ofW HT_.out HW_.out (by kernel_rfl)) (fun _ _ _ h => h) (Or.inl ⟨by rfl, ?_⟩) hHeld ?_ ?_
              rotate_left
              · rintro w' ⟨hS0, hS1⟩
                (refine exec_load_row 24 (.tmp 2) ?_ gb ?_ (c.cells A cap) 24 hS1 _ Tryd.underlying24 ?_ infoClu; all_goals rfl)
              rotate_left
              · simp only [Act.put, List.setIfInBounds_toArray, List.set_cons_zero, List.set_cons_succ, i64_w, i32_w]
                rfl
              refine one_ (i := 6) (N := some 35) #[true, true, true, true, true, true, true, true, true, true, true, true, true, false, false] rfl rfl (one_of HT_.out (by kernel_rfl)) (by decide) (fun K hK => ?_)
              refine goes_ Tryd.func43 (by kernel_rfl) rfl #[.agg (c.cells A cap), .int .i64 ((pos H part j : Nat) : Int)] (by rfl) rfl rfl (by (try simp only [List.map_toArray, List.map_cons, List.map_nil]); first | done | rfl) ?_
              refine (home_calls c A cap _ _ (Kd.C_below HR'.out (below_step HB2.out hHeld.1)) hok H HHo.out HD.out (by omega) (by omega)).mono ?_
              rw [Int.toNat_natCast]
              rintro e w5 ⟨rfl, hb5⟩
              refine ⟨_, rfl, ?_⟩
              have HBd5 := Aside0.mk (below_step HBd.out hb5)
              refine hK.out _ _ ⟨below_step hHeld.1 hb5, blk_below hHeld.2 hb5⟩ (fun hHeld => ?_)
              clear hK K
              refine norm_ (a' := ?_) ?_ ?_
              rotate_left
              · show Act.put _ (some 35) _ = _
                simp only [Act.put, List.setIfInBounds_toArray, List.set_cons_zero, List.set_cons_succ, i64_w, i32_w]
                rfl
              refine one_ (i := 13) (N := some 42) #[true, true, true, true, true, true, true, true, true, true, true, true, true, true, false] rfl rfl (one_of HT_.out (by kernel_rfl)) (by decide) (fun K hK => ?_)
              refine goes_ Tryd.func43 (by kernel_rfl) rfl #[.agg (c.cells A cap), .int .i64 ((pos H part k : Nat) : Int)] (by rfl) rfl rfl (by (try simp only [List.map_toArray, List.map_cons, List.map_nil]); first | done | rfl) ?_
              refine (home_calls c A cap _ _ (Kd.C_below HR'.out (below_step HB2.out hHeld.1)) hok H HHo.out HD.out (by omega) (by omega)).mono ?_
              rw [Int.toNat_natCast]
              rintro e w6 ⟨rfl, hb6⟩
              refine ⟨_, rfl, ?_⟩
              have HBd6 := Aside0.mk (below_step HBd5.out hb6)
              refine hK.out _ _ ⟨below_step hHeld.1 hb6, blk_below hHeld.2 hb6⟩ (fun hHeld => ?_)
              clear hK K
              refine norm_ (a' := ?_) ?_ ?_
              rotate_left
              · show Act.put _ (some 42) _ = _
                simp only [Act.put, List.setIfInBounds_toArray, List.set_cons_zero, List.set_cons_succ, i64_w, i32_w]
                rfl
              refine pure_ (i := 14) (N := some 43) (v := ?_) (a' := ?_) #[true, true, true, true, true, true, true, true, true, true, true, true, true, true, true] rfl rfl (any_of HT_.out (by kernel_rfl)) (fun _ _ _ h => h) (Or.inl ⟨by rfl, ?_⟩) ?_ ?_
              rotate_left
              · intro w'
                go_simp
                with_reducible rfl
              rotate_left
              · simp only [Act.put, List.setIfInBounds_toArray, List.set_cons_zero, List.set_cons_succ, i64_w, i32_w]
                rfl
              refine done_ (done_of HT_.out (by kernel_rfl)) ?_
              clear HT_ HW_ e1 e2 e3 e4 b0 hnn
              go_wp2_with fail
              go_roundw
              case rel => exact ⟨j + 1, false, by omega, by go_num, rfl, ⟨⟨fun h => by simp at h, fun h => absurd HE.out (h j (Nat.lt_succ_self j))⟩⟩, ⟨hHeld.1⟩, HBd6⟩
              case measure => simp [intOf]; omega
            · have heb : (hd H (pos H part j) == hd H (pos H part k)) = false := beq_eq_false_iff_ne.2 he
              have HE := Aside0.mk he
              clear he
              refine start_ (n := 15) (S := fun w' => Below w2.heap.size w2 w' ∧ w'.heap[gb]? = some (.cells (c.cells A cap) 24 (0, 0))) (ds := []) #[false, false, false, false, false, false, false, false, false, false, false, false, false, false, false] (by kernel_rfl) rfl rfl ⟨below_drew1 HBi.out, blk_drew XHr.out⟩ (fun hHeld => ?_); refine with_tabW rwalk.tab10 rwalk.bits10 (fun HT_ HW_ => ?_)
              have HBd := Aside0.mk (below_drew1 HBo.out)
              generalize wr.drew = w40 at hHeld HBd ⊢
              refine pure_ (i := 1) (N := some 30) (v := ?_) (a' := ?_) #[false, true, false, false, false, false, false, false, false, false, false, false, false, false, false] rfl rfl (any_of HT_.out (by kernel_rfl)) (fun _ _ _ h => h) (Or.inl ⟨by rfl, ?_⟩) ?_ ?_
              rotate_left
              · intro w'
                go_simp
                with_reducible rfl
              rotate_left
              · simp only [Act.put, List.setIfInBounds_toArray, List.set_cons_zero, List.set_cons_succ, i64_w, i32_w]
                rfl
              refine pure_ (i := 2) (N := some 31) (v := ?_) (a' := ?_) #[false, true, true, false, false, false, false, false, false, false, false, false, false, false, false] rfl rfl (any_of HT_.out (by kernel_rfl)) (fun _ _ _ h => h) (Or.inl ⟨by rfl, ?_⟩) ?_ ?_
              rotate_left
              · intro w'
                go_simp
                with_reducible rfl
              rotate_left
              · simp only [Act.put, List.setIfInBounds_toArray, List.set_cons_zero, List.set_cons_succ, i64_w, i32_w]
                rfl
              refine pure_ (i := 3) (N := some 32) (v := ?_) (a' := ?_) #[false, true, true, true, false, false, false, false, false, false, false, false, false, false, false] rfl rfl (any_of HT_.out (by kernel_rfl)) (fun _ _ _ h => h) (Or.inl ⟨by rfl, ?_⟩) ?_ ?_
              rotate_left
              · intro w'
                go_simp
                with_reducible rfl
              rotate_left
              · simp only [Act.put, List.setIfInBounds_toArray, List.set_cons_zero, List.set_cons_succ, i64_w, i32_w]
                rfl
              refine pure_ (i := 4) (N := some 33) (v := ?_) (a' := ?_) #[false, true, true, true, true, false, false, false, false, false, false, false, false, false, false] rfl rfl (any_of HT_.out (by kernel_rfl)) (fun _ _ _ h => h) (Or.inl ⟨by rfl, ?_⟩) ?_ ?_
              rotate_left
              · intro w'
                go_simp
                with_reducible rfl
              rotate_left
              · simp only [Act.put, List.setIfInBounds_toArray, List.set_cons_zero, List.set_cons_succ, i64_w, i32_w]
                rfl
              refine pure_ (i := 5) (N := some 34) (v := ?_) (a' := ?_) #[false, true, true, true, true, true, false, false, false, false, false, false, false, false, false] rfl rfl (any_of HT_.out (by kernel_rfl)) (fun _ _ _ h => h) (Or.inl ⟨by rfl, ?_⟩) ?_ ?_
              rotate_left
              · intro w'
                go_simp
                with_reducible rfl
              rotate_left
              · simp only [Act.put, List.setIfInBounds_toArray, List.set_cons_zero, List.set_cons_succ, i64_w, i32_w]
                rfl
              refine pure_ (i := 8) (N := some 37) (v := ?_) (a' := ?_) #[false, true, true, true, true, true, false, false, true, false, false, false, false, false, false] rfl rfl (any_of HT_.out (by kernel_rfl)) (fun _ _ _ h => h) (Or.inl ⟨by rfl, ?_⟩) ?_ ?_
              rotate_left
              · intro w'
                go_simp
                with_reducible rfl
              rotate_left
              · simp only [Act.put, List.setIfInBounds_toArray, List.set_cons_zero, List.set_cons_succ, i64_w, i32_w]
                rfl
              refine pure_ (i := 9) (N := some 38) (v := ?_) (a' := ?_) #[false, true, true, true, true, true, false, false, true, true, false, false, false, false, false] rfl rfl (any_of HT_.out (by kernel_rfl)) (fun _ _ _ h => h) (Or.inl ⟨by rfl, ?_⟩) ?_ ?_
              rotate_left
              · intro w'
                go_simp
                with_reducible rfl
              rotate_left
              · simp only [Act.put, List.setIfInBounds_toArray, List.set_cons_zero, List.set_cons_succ, i64_w, i32_w]
                rfl
              refine pure_ (i := 10) (N := some 39) (v := ?_) (a' := ?_) #[false, true, true, true, true, true, false, false, true, true, true, false, false, false, false] rfl rfl (any_of HT_.out (by kernel_rfl)) (fun _ _ _ h => h) (Or.inl ⟨by rfl, ?_⟩) ?_ ?_
              rotate_left
              · intro w'
                go_simp
                with_reducible rfl
              rotate_left
              · simp only [Act.put, List.setIfInBounds_toArray, List.set_cons_zero, List.set_cons_succ, i64_w, i32_w]
                rfl
              refine pure_ (i := 11) (N := some 40) (v := ?_) (a' := ?_) #[false, true, true, true, true, true, false, false, true, true, true, true, false, false, false] rfl rfl (any_of HT_.out (by kernel_rfl)) (fun _ _ _ h => h) (Or.inl ⟨by rfl, ?_⟩) ?_ ?_
              rotate_left
              · intro w'
                go_simp
                with_reducible rfl
              rotate_left
              · simp only [Act.put, List.setIfInBounds_toArray, List.set_cons_zero, List.set_cons_succ, i64_w, i32_w]
                rfl
              refine pure_ (i := 12) (N := some 41) (v := ?_) (a' := ?_) #[false, true, true, true, true, true, false, false, true, true, true, true, true, false, false] rfl rfl (any_of HT_.out (by kernel_rfl)) (fun _ _ _ h => h) (Or.inl ⟨by rfl, ?_⟩) ?_ ?_
              rotate_left
              · intro w'
                go_simp
                with_reducible rfl
              rotate_left
              · simp only [Act.put, List.setIfInBounds_toArray, List.set_cons_zero, List.set_cons_succ, i64_w, i32_w]
                rfl
              refine take_ (i := 0) (N := some 29) (v := ?_) (a' := ?_) #[true, true, true, true, true, true, false, false, true, true, true, true, true, false, false] rfl rfl (take_ofW HT_.out HW_.out (by kernel_rfl)) (fun _ _ _ h => h) (Or.inl ⟨by rfl, ?_⟩) hHeld ?_ ?_
              rotate_left
              · rintro w' ⟨hS0, hS1⟩
                (refine exec_load_row 24 (.tmp 2) ?_ gb ?_ (c.cells A cap) 24 hS1 _ Tryd.underlying24 ?_ infoClu; all_goals rfl)
              rotate_left
              · simp only [Act.put, List.setIfInBounds_toArray, List.set_cons_zero, List.set_cons_succ, i64_w, i32_w]
                rfl
              refine take_ (i := 7) (N := some 36) (v := ?_) (a' := ?_) #[true, true, true, true, true, true, false, true, true, true, true, true, true, false, false] rfl rfl (take_ofW HT_.out HW_.out (by kernel_rfl)) (fun _ _ _ h => h) (Or.inl ⟨by rfl, ?_⟩) hHeld ?_ ?_
              rotate_left
              · rintro w' ⟨hS0, hS1⟩
                (refine exec_load_row 24 (.tmp 2) ?_ gb ?_ (c.cells A cap) 24 hS1 _ Tryd.underlying24 ?_ infoClu; all_goals rfl)
              rotate_left
              · simp only [Act.put, List.setIfInBounds_toArray, List.set_cons_zero, List.set_cons_succ, i64_w, i32_w]
                rfl
              refine one_ (i := 6) (N := some 35) #[true, true, true, true, true, true, true, true, true, true, true, true, true, false, false] rfl rfl (one_of HT_.out (by kernel_rfl)) (by decide) (fun K hK => ?_)
              refine goes_ Tryd.func43 (by kernel_rfl) rfl #[.agg (c.cells A cap), .int .i64 ((pos H part j : Nat) : Int)] (by rfl) rfl rfl (by (try simp only [List.map_toArray, List.map_cons, List.map_nil]); first | done | rfl) ?_
              refine (home_calls c A cap _ _ (Kd.C_below HR'.out (below_step HB2.out hHeld.1)) hok H HHo.out HD.out (by omega) (by omega)).mono ?_
              rw [Int.toNat_natCast]
              rintro e w5 ⟨rfl, hb5⟩
              refine ⟨_, rfl, ?_⟩
              have HBd5 := Aside0.mk (below_step HBd.out hb5)
              refine hK.out _ _ ⟨below_step hHeld.1 hb5, blk_below hHeld.2 hb5⟩ (fun hHeld => ?_)
              clear hK K
              refine norm_ (a' := ?_) ?_ ?_
              rotate_left
              · show Act.put _ (some 35) _ = _
                simp only [Act.put, List.setIfInBounds_toArray, List.set_cons_zero, List.set_cons_succ, i64_w, i32_w]
                rfl
              refine one_ (i := 13) (N := some 42) #[true, true, true, true, true, true, true, true, true, true, true, true, true, true, false] rfl rfl (one_of HT_.out (by kernel_rfl)) (by decide) (fun K hK => ?_)
              refine goes_ Tryd.func43 (by kernel_rfl) rfl #[.agg (c.cells A cap), .int .i64 ((pos H part k : Nat) : Int)] (by rfl) rfl rfl (by (try simp only [List.map_toArray, List.map_cons, List.map_nil]); first | done | rfl) ?_
              refine (home_calls c A cap _ _ (Kd.C_below HR'.out (below_step HB2.out hHeld.1)) hok H HHo.out HD.out (by omega) (by omega)).mono ?_
              rw [Int.toNat_natCast]
              rintro e w6 ⟨rfl, hb6⟩
              refine ⟨_, rfl, ?_⟩
              have HBd6 := Aside0.mk (below_step HBd5.out hb6)
              refine hK.out _ _ ⟨below_step hHeld.1 hb6, blk_below hHeld.2 hb6⟩ (fun hHeld => ?_)
              clear hK K
              refine norm_ (a' := ?_) ?_ ?_
              rotate_left
              · show Act.put _ (some 42) _ = _
                simp only [Act.put, List.setIfInBounds_toArray, List.set_cons_zero, List.set_cons_succ, i64_w, i32_w]
                rfl
              refine pure_ (i := 14) (N := some 43) (v := ?_) (a' := ?_) #[true, true, true, true, true, true, true, true, true, true, true, true, true, true, true] rfl rfl (any_of HT_.out (by kernel_rfl)) (fun _ _ _ h => h) (Or.inl ⟨by rfl, ?_⟩) ?_ ?_
              rotate_left
              · intro w'
                go_simp
                with_reducible rfl
              rotate_left
              · simp only [Act.put, List.setIfInBounds_toArray, List.set_cons_zero, List.set_cons_succ, i64_w, i32_w]
                rfl
              refine done_ (done_of HT_.out (by kernel_rfl)) ?_
              clear HT_ HW_ e1 e2 e3 e4 b0 hnn
              go_wp2_with fail
              go_roundw
              case rel =>
                refine ⟨j + 1, bb, by omega, by go_num, rfl, ⟨⟨fun h n hn => ?_, fun h => HJ.out.2 (fun n hn => h n (by omega))⟩⟩, ⟨hHeld.1⟩, HBd6⟩
                rcases Nat.lt_succ_iff_lt_or_eq.1 hn with h1 | h1
                · exact HJ.out.1 h n h1
                · subst h1; exact HE.out
              case measure => simp [intOf]; omega
          · have hjk2 : j = k := by omega
            subst hjk2
            have HFr : Aside0 (bb = true ↔ fresh H part (rnd H part R j) j) := ⟨HJ.out.trans (fresh_iff (by rw [HM.out]; exact hmr)).symm⟩
            clear HJ
            have HTi := Aside0.mk (Kd.R_below HT.out HBo.out)
            cases bb with
            | false =>
              have HNo := Aside0.mk (rnd_no (R := R) (fun hf : fresh H part (rnd H part R j) j => by have := HFr.out.2 hf; simp at this))
              go_wp2_with fail
              go_roundw
              case rel => exact ⟨j + 1, by omega, by go_num, ⟨by rw [HNo.out]; exact HTi.out⟩, HBi⟩
              case measure => simp [intOf]; omega
            | true =>
              have HYes : Aside0 (takenI (rnd H part R j) ++ [((pos H part j : Nat) : Int)] = takenI (rnd H part R (j + 1))) := ⟨by
                rw [rnd_yes (by rw [HM.out]; exact hmr) (HFr.out.1 rfl)]
                unfold takenI
                rw [List.map_append]
                rfl⟩
              have HLk := Aside0.mk (show (takenI (rnd H part R j)).length ≤ 16 by unfold takenI; rw [List.length_map, HM.out]; omega)
              have hmod : ((part : Int) + (j : Int)) % (H.length : Int) = ((pos H part j : Nat) : Int) := by unfold pos; rw [Int.natCast_emod, Int.natCast_add]
              have b0 : (0 : Int) < (H.length : Int) := by omega
              go_wp2_with (first | ((with_reducible refine gate_builtin (b := .append) (xs := #[.tmp 45, .tmp 51]) rfl ?_); at_builtin; refine Kd.R_append (Kd.int .i64) (w0 := w2) w2.heap.size rfl (.tmp 45) (.tmp 51) 36 3 (.int .i64 0) 8 rfl Tryd.underlying36 infoInt rfl (by decide) (by decide) (.slice AT m cT) (takenI (rnd H part R j)) ((pos H part j : Nat) : Int) [.int .i64 ((pos H part j : Nat) : Int)] (fun _ => True) (fun _ => False) rfl rfl rfl (fun _ hk => hk.elim) (fun _ _ => trivial) HTi.out HBi.out HBi.out.size (by have h1 := HLk.out; omega) ?_; intro v1 w6 HR1 hb1 hg1 hat1; have HR1 := Aside0.mk HR1; have HB1 := Aside0.mk hb1; clear hb1 hg1 hat1 hmod) | fail)
              go_roundw
              case rel => exact ⟨j + 1, by omega, by go_num, ⟨by rw [← HYes.out]; exact HR1.out⟩, HB1⟩
              case measure => simp [intOf]; omega
      · have HFull := Aside0.mk (show walkL H part R = takenI (rnd H part R k) from by
          unfold walkL takenI
          rw [show H.length = k + (H.length - k) by omega, rnd_full (by rw [HM.out]; omega)])
        have t2 : decide (m < R) = false := decide_eq_false hmr
        go_wp2_with fail
        go_ret
        exact ⟨_, rfl, by rw [HFull.out]; exact Kd.R_lower HT.out HB2.out.size, below_step HB2.out HBr.out⟩
    · have HFull := Aside0.mk (show walkL H part R = takenI (rnd H part R k) from by
        unfold walkL takenI
        rw [show H.length = k by omega])
      go_wp2_with fail
      go_ret
      exact ⟨_, rfl, by rw [HFull.out]; exact Kd.R_lower HT.out HB2.out.size, below_step HB2.out HBr.out⟩
end Go.Proofs.YtkcpeanimmjajaaDoor.Ring
