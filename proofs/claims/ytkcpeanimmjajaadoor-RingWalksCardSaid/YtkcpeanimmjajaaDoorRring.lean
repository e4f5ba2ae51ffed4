import Derived.Test.YtkcpeanimmjajaaDoorRwalk
namespace Go.Proofs.YtkcpeanimmjajaaDoor.Ring
open Go.RowKit Go.Proofs.YtkcpeanimmjajaaDoorW.PrintWords Go.Proofs.YtkcpeanimmjajaaDoorW.PrintLast Go.Proofs.YtkcpeanimmjajaaDoorW.PrintMore Go.Proofs.YtkcpeanimmjajaaDoor.PRingWalks
set_option linter.unusedVariables false
set_option linter.unusedSimpArgs false

set_option maxHeartbeats 4000000 in
set_option maxRecDepth 100000 in
theorem rwalk_pair (c : Clu) (A : Option Addr) (cap : Nat) (part : Int) (w : World) (HR : Kd.C kN w A c.nodes.length c.nodes) (hok : c.ok) (hG : Great w) :
    Calls Tryd.prog 16 #[.agg (c.cells A cap), .int .i64 part] w fun e w' => PairPost (walkV c part) (walkE c part) w e w' := by
  have HR' := Aside0.mk HR
  have HG := Aside0.mk hG
  clear HR hG
  go_enter Tryd.func16, Tryd.ntmps16
  go_wp2_with (first | ((with_reducible refine gate_dst (N := 2) rfl ?_); refine new_event ?hg (N := 2) ?hd (c.cells A cap) 24 ?hr ?_; (case hd => rfl); (case hg => rfl); (case hr => first | (go_simp; done) | (go_simp; rfl)); intro gb w1 GE HX HB) | ((with_reducible refine gate_dst (N := 7) rfl ?_); refine wpList_load_row rfl 24 (.tmp 2) rfl gb rfl 24 (c.cells A cap) (0, 0) _ HX.out Tryd.underlying24 rfl (by kernel_rfl) ?_))
  go_at_call 13
  refine (rcheck_calls c A cap w1 (Kd.C_below HR'.out HB.out) hok (HG.out.below HB.out)).mono ?_
  rintro e w2 ⟨rfl, hb⟩
  have HB2 := Aside0.mk (below_step HB.out hb)
  have HX2 := Aside0.mk (blk_below HX.out hb)
  clear hb
  by_cases h0 : checkN c = 0
  · obtain ⟨hd0, hf1, hf2, hn16⟩ := check_ok h0
    have t1 : (checkN c != 0) = false := by rw [h0]; rfl
    have H0 := Aside0.mk h0
    clear h0 hd0 hf1 hf2
    by_cases hn : part < 0
    · have t2 : decide (part < 0) = true := decide_eq_true hn
      have HTh := Aside0.mk (show ¬ There c part from fun h => by have := h.1; omega)
      have HE := Aside0.mk (show walkE c part = 69 by unfold walkE; rw [if_pos H0.out, if_neg HTh.out])
      have HV := Aside0.mk (show walkV c part = [] by unfold walkV; rw [if_neg (fun h => HTh.out h.2)])
      clear hn
      go_wp2_with fail
      go_ret2
      exact pair_no HV.out HE.out HB2.out
    · have t2 : decide (part < 0) = false := decide_eq_false hn
      go_wp2_with (first | ((with_reducible refine gate_dst (N := 16) rfl ?_); (try (refine gate_guard (by rfl) ?_; dsimp only)); refine wpList_load_row rfl 24 (.tmp 2) rfl gb rfl 24 (c.cells A cap) (0, 0) _ HX2.out Tryd.underlying24 rfl (by kernel_rfl) ?_) | fail)
      go_at_call 39
      refine (parts_calls c A cap w2 (Kd.C_below HR'.out HB2.out) hok (by omega)).mono ?_
      rintro e w3 ⟨rfl, hb3⟩
      have HB3 := Aside0.mk (below_step HB2.out hb3)
      have HX3 := Aside0.mk (blk_below HX2.out hb3)
      clear hb3
      by_cases hp : (partsN c.nodes : Int) ≤ part
      · have t3 : decide ((partsN c.nodes : Int) ≤ part) = true := decide_eq_true hp
        have HTh := Aside0.mk (show ¬ There c part from fun h => by have := h.2; omega)
        have HE := Aside0.mk (show walkE c part = 69 by unfold walkE; rw [if_pos H0.out, if_neg HTh.out])
        have HV := Aside0.mk (show walkV c part = [] by unfold walkV; rw [if_neg (fun h => HTh.out h.2)])
        clear hp hn
        go_wp2_with fail
        go_ret2
        exact pair_no HV.out HE.out HB3.out
      · have t3 : decide ((partsN c.nodes : Int) ≤ part) = false := decide_eq_false hp
        have HTh := Aside0.mk (show There c part from ⟨by omega, by omega⟩)
        have HE := Aside0.mk (show walkE c part = 0 by unfold walkE; rw [if_pos H0.out, if_pos HTh.out])
        have HV := Aside0.mk (show walkV c part = walkL (HH c.nodes) part.toNat c.f1.toNat by unfold walkV; rw [if_pos ⟨H0.out, HTh.out⟩])
        clear hp hn
        go_wp2_with (first | ((with_reducible refine gate_dst (N := 20) rfl ?_); refine wpList_load_row rfl 24 (.tmp 2) rfl gb rfl 24 (c.cells A cap) (0, 0) _ HX3.out Tryd.underlying24 rfl (by kernel_rfl) ?_) | fail)
        go_at_call 42
        refine (rwalk_calls c A cap part w3 (Kd.C_below HR'.out HB3.out) hok H0.out HTh.out).mono ?_
        rintro e w4 ⟨v, rfl, hR, hb4⟩
        have HRv := Aside0.mk (Kd.R_lower hR HB3.out.size)
        have HB4 := Aside0.mk (below_step HB3.out hb4)
        clear hR hb4
        go_wp2_with fail
        go_ret2
        exact ⟨v, by rw [HE.out]; rfl, by rw [HV.out]; exact HRv.out, HB4.out⟩
  · have t1 : (checkN c != 0) = true := bne_iff_ne.2 h0
    have HE := Aside0.mk (show walkE c part = checkN c by unfold walkE; rw [if_neg h0])
    have HV := Aside0.mk (show walkV c part = [] by unfold walkV; rw [if_neg (fun h => h0 h.1)])
    clear h0
    go_wp2_with fail
    go_ret2
    exact pair_no HV.out HE.out HB2.out
end Go.Proofs.YtkcpeanimmjajaaDoor.Ring
