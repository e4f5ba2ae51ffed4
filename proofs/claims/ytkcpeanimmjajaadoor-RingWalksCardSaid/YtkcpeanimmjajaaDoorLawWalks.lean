import Derived.Test.YtkcpeanimmjajaaDoorLawChecks
import Derived.Test.YtkcpeanimmjajaaDoorRown
namespace Go.Proofs.YtkcpeanimmjajaaDoor.Ring
open Go.RowKit Go.Proofs.YtkcpeanimmjajaaDoorW.PrintWords Go.Proofs.YtkcpeanimmjajaaDoorW.PrintLast Go.Proofs.YtkcpeanimmjajaaDoorW.PrintMore Go.Proofs.YtkcpeanimmjajaaDoor.PRingWalks
set_option linter.unusedVariables false
set_option linter.unusedSimpArgs false

theorem walkV_len (c : Clu) (part : Int) : (walkV c part).length ≤ 64 := by
  unfold walkV
  split
  · rename_i h
    obtain ⟨hd0, -⟩ := check_ok h.1
    have h1 := rnd_len (HH c.nodes) part.toNat c.f1.toNat (HH c.nodes).length
    have h2 := (HH_homes hd0).1
    have h3 := hd0.2.1
    unfold walkL
    rw [List.length_map]
    omega
  · simp
theorem ownV_len (c : Clu) (part : Int) : (ownV c part).length ≤ 64 := by
  unfold ownV
  split
  · rename_i h
    obtain ⟨hd0, -⟩ := check_ok h.1
    have h1 := rnd_len (HH c.nodes) part.toNat c.f1.toNat (HH c.nodes).length
    have h2 := (HH_homes hd0).1
    have h3 := hd0.2.1
    unfold ownL
    rw [List.length_map]
    omega
  · simp

set_option maxHeartbeats 8000000 in
set_option maxRecDepth 100000 in
theorem walks_walk (c : Clu) (A : Option Addr) (cap : Nat) (part : Int) (w : World) (HA : Kd.C kN w A c.nodes.length c.nodes) (hfit : c.fit) (hG : Great w) (hp63 : -9223372036854775808 ≤ part) (hp64 : part ≤ 9223372036854775807) :
    Calls Tryd.prog 4 #[.agg (c.cells A cap), .int .i64 part] w fun e w' => e = .returned (.bool true) ∧ Below w.heap.size w w' := by
  have HRA := Aside0.mk HA
  have HG := Aside0.mk hG
  clear HA hG
  go_enter Tryd.func4, Tryd.ntmps4
  go_wp2_with (first | ((with_reducible refine gate_dst (N := 2) rfl ?_); refine new_event ?hg (N := 2) ?hd (c.cells A cap) 24 ?hr ?_; (case hd => rfl); (case hg => rfl); (case hr => first | (go_simp; done) | (go_simp; rfl)); intro ga w1 GA XA B1) | ((with_reducible refine gate_dst (N := 14) rfl ?_); refine wpList_load_row rfl 24 (.tmp 2) rfl ga rfl 24 (c.cells A cap) (0, 0) _ XA.out Tryd.underlying24 rfl (by kernel_rfl) ?_))
  go_at_call 10
  refine (hand_gives c A cap w1 (Kd.C_below HRA.out B1.out) hfit).mono ?_
  rintro e w2 ⟨gh, rfl, hH, hb2⟩
  have HH2 := Aside0.mk hH
  have BW := Aside0.mk (below_step B1.out hb2)
  have XA2 := Aside0.mk (blk_below XA.out hb2)
  obtain ⟨A2, c2, B2, d2, P2, p2, hX2, hC2, hc2⟩ := hH.at_
  have XH := Aside0.mk hX2
  have HC2 := Aside0.mk hC2
  clear hH hb2 hX2 hC2 hc2
  go_wp2_with (first | ((with_reducible refine gate_dst (N := 20) rfl ?_); refine load_mid_at rfl 24 (.tmp 19) rfl gh 0 rfl (c.cells A2 c2) _ (hand_range0 XH.out) Tryd.underlying24 rfl infoClu ?_) | fail)
  go_at_call 15
  refine (walk_calls c A2 c2 part w2 HC2.out hfit.ok hp63 hp64).mono ?_
  rintro e w3 ⟨v1, rfl, hR1, hb3⟩
  obtain ⟨m, hm⟩ : ∃ m, (walkV c part).length = m := ⟨_, rfl⟩
  have HM := Aside0.mk hm
  obtain ⟨V1, k1, rfl, hk1⟩ := R_slice_n hR1 hm
  have HV1 := Aside0.mk (show (Kd.int .i64).C w3 V1 (walkV c part).length (walkV c part) from (Kd.R_reads' (by rw [← hm] at hR1; exact hR1)).2.2)
  have BX3 := Aside0.mk hb3
  have XA3 := Aside0.mk (blk_below XA2.out hb3)
  clear hR1 hb3 hm
  go_wp2_with (first | ((with_reducible refine gate_dst (N := 26) rfl ?_); refine wpList_load_row rfl 24 (.tmp 2) rfl ga rfl 24 (c.cells A cap) (0, 0) _ XA3.out Tryd.underlying24 rfl (by kernel_rfl) ?_) | fail)
  go_at_call 16
  refine (rwalk_pair c A cap part w3 (Kd.C_below HRA.out (below_step BW.out BX3.out)) hfit.ok (HG.out.below (below_step BW.out BX3.out))).mono ?_
  rintro e w4 ⟨v2, rfl, hR2, hb4⟩
  obtain ⟨V2, k2, rfl, hk2⟩ := R_slice_n hR2 HM.out
  have HV2 := Aside0.mk (show (Kd.int .i64).C w4 V2 (walkV c part).length (walkV c part) from (Kd.R_reads' (by rw [← HM.out] at hR2; exact hR2)).2.2)
  have HV14 := Aside0.mk (Kd.C_below HV1.out hb4)
  have BX4 := Aside0.mk (below_step BX3.out hb4)
  clear hR2 hb4 HV1
  go_wp2_with fail
  go_at_call 17
  rw [← HM.out] at hk1 hk2 ⊢
  refine (sameInts_calls (walkV c part) (by have := walkV_len c part; omega) V1 k1 V2 k2 w4 HV14.out hk1 HV2.out hk2).mono ?_
  rintro e w5 ⟨rfl, hd5⟩
  have BX5 := Aside0.mk (below_step BX4.out hd5.below)
  clear hd5 HV14 HV2
  go_wp2_with fail
  go_at_call 12
  refine (num_calls (walkE c part) _).mono ?_
  rintro e w6 ⟨rfl, hb6⟩
  have BX6 := Aside0.mk (below_step BX5.out hb6)
  have XH6 := Aside0.mk (blk_below XH.out BX6.out)
  have XA6 := Aside0.mk (blk_below XA2.out BX6.out)
  have HC6 := Aside0.mk (Kd.C_below HC2.out BX6.out)
  clear hb6
  go_wp2_with (first | ((with_reducible refine gate_dst (N := 45) rfl ?_); refine load_mid_at rfl 24 (.tmp 44) rfl gh 0 rfl (c.cells A2 c2) _ (hand_range0 XH6.out) Tryd.underlying24 rfl infoClu ?_) | fail)
  go_at_call 18
  refine (owners_calls c A2 c2 part w6 HC6.out hfit.ok hp63 hp64).mono ?_
  rintro e w7 ⟨v3, rfl, hR3, hb7⟩
  obtain ⟨q, hq⟩ : ∃ q, (ownV c part).length = q := ⟨_, rfl⟩
  have HQ := Aside0.mk hq
  obtain ⟨V3, k3, rfl, hk3⟩ := R_slice_n hR3 hq
  have HV3 := Aside0.mk (show (Kd.int .i64).C w7 V3 (ownV c part).length (ownV c part) from (Kd.R_reads' (by rw [← hq] at hR3; exact hR3)).2.2)
  have BX7 := Aside0.mk (below_step BX6.out hb7)
  have XA7 := Aside0.mk (blk_below XA6.out hb7)
  clear hR3 hb7 hq
  go_wp2_with (first | ((with_reducible refine gate_dst (N := 51) rfl ?_); refine wpList_load_row rfl 24 (.tmp 2) rfl ga rfl 24 (c.cells A cap) (0, 0) _ XA7.out Tryd.underlying24 rfl (by kernel_rfl) ?_) | fail)
  go_at_call 19
  refine (rown_pair c A cap part w7 (Kd.C_below HRA.out (below_step BW.out BX7.out)) hfit.ok (HG.out.below (below_step BW.out BX7.out))).mono ?_
  rintro e w8 ⟨v4, rfl, hR4, hb8⟩
  obtain ⟨V4, k4, rfl, hk4⟩ := R_slice_n hR4 HQ.out
  have HV4 := Aside0.mk (show (Kd.int .i64).C w8 V4 (ownV c part).length (ownV c part) from (Kd.R_reads' (by rw [← HQ.out] at hR4; exact hR4)).2.2)
  have HV38 := Aside0.mk (Kd.C_below HV3.out hb8)
  have BX8 := Aside0.mk (below_step BX7.out hb8)
  clear hR4 hb8 HV3
  go_wp2_with fail
  go_at_call 17
  rw [← HQ.out] at hk3 hk4 ⊢
  refine (sameInts_calls (ownV c part) (by have := ownV_len c part; omega) V3 k3 V4 k4 w8 HV38.out hk3 HV4.out hk4).mono ?_
  rintro e w9 ⟨rfl, hd9⟩
  have BX9 := Aside0.mk (below_step BX8.out hd9.below)
  clear hd9 HV38 HV4
  go_wp2_with fail
  go_at_call 12
  refine (num_calls (walkE c part) _).mono ?_
  rintro e w10 ⟨rfl, hb10⟩
  have BX10 := Aside0.mk (below_step BX9.out hb10)
  clear hb10
  go_wp2_with fail
  go_at_call 14
  refine (left_gives c gh _ (HH2.out.below BX10.out) hfit).mono ?_
  rintro e w11 ⟨rfl, hb11⟩
  have BX11 := Aside0.mk (below_step BX10.out hb11)
  clear hb11
  go_wp2_with fail
  go_ret
  exact ⟨rfl, below_step BW.out BX11.out⟩
end Go.Proofs.YtkcpeanimmjajaaDoor.Ring
