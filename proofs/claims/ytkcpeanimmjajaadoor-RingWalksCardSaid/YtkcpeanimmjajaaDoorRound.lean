import Derived.Test.YtkcpeanimmjajaaDoorHome
import Derived.Test.YtkcpeanimmjajaaDoorHand
namespace Go.Proofs.YtkcpeanimmjajaaDoor.Ring
open Go.RowKit Go.Proofs.YtkcpeanimmjajaaDoorW.PrintWords Go.Proofs.YtkcpeanimmjajaaDoorW.PrintLast Go.Proofs.YtkcpeanimmjajaaDoorW.PrintMore Go.Proofs.YtkcpeanimmjajaaDoor.PRingWalks
set_option linter.unusedVariables false
set_option linter.unusedSimpArgs false

def takenI (l : List Nat) : List Int := l.map Int.ofNat
/-- A list of numbers of the call's own. -/
def ListPost (l : List Int) (w : World) (e : Ending) (w' : World) : Prop :=
  ∃ v, e = .returned v ∧ (Kd.int .i64).R 3 w' w.heap.size (fun _ => True) v l ∧ Below w.heap.size w w'

set_option maxHeartbeats 4000000 in
set_option maxRecDepth 100000 in
theorem round_calls (H : List Int) (A : Option Addr) (cap : Nat) (p0 r0 : Int) (w : World) (HC : (Kd.int .i64).C w A H.length H) (h1 : 1 ≤ H.length) (h64 : H.length ≤ 64) (hp0 : 0 ≤ p0) (hp1 : p0 < (H.length : Int)) (hr0 : 0 ≤ r0) (hr1 : r0 ≤ 16) :
    Calls Tryd.prog 41 #[.slice A H.length cap, .int .i64 p0, .int .i64 r0] w fun e w' => ListPost (walkL H p0.toNat r0.toNat) w e w' := by
  obtain ⟨part, rfl⟩ := Int.eq_ofNat_of_zero_le hp0
  obtain ⟨R, rfl⟩ := Int.eq_ofNat_of_zero_le hr0
  rw [Int.toNat_natCast, Int.toNat_natCast]
  have HC' := Aside0.mk HC
  clear HC hp0 hr0
  have hp2 : part < H.length := by omega
  have hr2 : R ≤ 16 := by omega
  clear hp1 hr1
  go_enter Tryd.func41, Tryd.ntmps41
  go_wp2_with fail
  go_step3
  go_wp2_with fail
  go_step3
  go_wp2_with fail
  go_loopg [7, 8] H.length (fun g v i wr => ∃ k : Nat, k + g = H.length ∧ i = .int .i64 k ∧ Aside0 ((Kd.int .i64).R 3 wr w.heap.size (fun _ => True) v (takenI (rnd H part R k))) ∧ Aside0 (Below w.heap.size w wr))
  case atStart => exact ⟨0, by omega, rfl, ⟨Kd.R_nil _ _ _ _ _⟩, ⟨Below.refl _ _⟩⟩
  case round =>
    obtain ⟨k, hkg, rfl, HT, HB⟩ := hrel
    obtain ⟨m, hm⟩ : ∃ m, (rnd H part R k).length = m := ⟨_, rfl⟩
    have HM := Aside0.mk hm
    have hml := rnd_len H part R k
    have hmR := rnd_R H part R k
    rw [hm] at hml hmR
    obtain ⟨AT, cT, rfl, hcT⟩ := R_slice_n HT.out (n := m) (by unfold takenI; rw [List.length_map]; exact hm)
    clear hm
    by_cases hlt : k < H.length
    · by_cases hmr : m < R
      · have HP := Aside0.mk (pos_lt (H := H) (by omega) part k)
        have hmod : Aside0 (((part : Int) + (k : Int)) % (H.length : Int) = ((pos H part k : Nat) : Int)) := ⟨by unfold pos; rw [Int.natCast_emod, Int.natCast_add]⟩
        have b0 : (0 : Int) < (H.length : Int) := by omega
        go_wp2_with fail
        rw [hmod.out]
        obtain ⟨q, hq⟩ : ∃ q, pos H part k = q := ⟨_, rfl⟩
        rw [hq] at HP ⊢
        have HQ := Aside0.mk hq
        clear hq
        obtain ⟨wo, rfl⟩ : ∃ wo : World, wo = wr := ⟨_, rfl⟩
        obtain ⟨go, rfl⟩ : ∃ go : Nat, go = gk := ⟨_, rfl⟩
        have HCt := Aside0.mk (show (Kd.int .i64).C wo AT m (takenI (rnd H part R k)) from by
          obtain ⟨h1, h2, h3⟩ := Kd.R_reads' HT.out
          rwa [← h1] at h3)
        go_loopg [32] m (fun g2 s wy => ∃ j : Nat, j + g2 = m ∧ s = .int .i64 j ∧ Aside0 (∀ t ∈ (rnd H part R k).take j, hd H t ≠ hd H q) ∧ Aside0 (Below wo.heap.size wo wy))
        case atStart => exact ⟨0, by omega, rfl, ⟨fun t h => by simp at h⟩, ⟨Below.refl _ _⟩⟩
        case round =>
          obtain ⟨j, hjg, rfl, HJ, HBi⟩ := hrel
          by_cases hjm : j < m
          · obtain ⟨adT, x, rfl, hx, hzx⟩ := int_at (Kd.C_below HCt.out HBi.out) j hjm
            have hjl : j < (rnd H part R k).length := by rw [HM.out]; exact hjm
            unfold takenI at hx
            rw [List.getElem?_map, List.getElem?_eq_getElem hjl] at hx
            obtain rfl := Option.some.inj hx
            obtain ⟨t, ht⟩ : ∃ t, (rnd H part R k)[j] = t := ⟨_, rfl⟩
            have HTk : Aside0 ((rnd H part R k).take (j + 1) = (rnd H part R k).take j ++ [t]) := ⟨by rw [List.take_succ_eq_append_getElem hjl, ht]⟩
            have htm : t ∈ rnd H part R k := by rw [← ht]; exact List.getElem_mem hjl
            have htl := rnd_lt (H := H) (by omega) part R k t htm
            rw [ht] at hzx
            have hzx' : wr.cell? (adT.add j) = some (.int .i64 (t : Int)) := hzx
            have HMem := Aside0.mk htm
            clear hx ht htm hzx hjl
            obtain ⟨adH, y, rfl, hy, hzy⟩ := int_at (Kd.C_below HC'.out (below_step HB.out HBi.out)) t htl
            obtain ⟨adH', z, hA', hz, hzz⟩ := int_at (Kd.C_below HC'.out (below_step HB.out HBi.out)) q HP.out
            obtain rfl : adH = adH' := Option.some.inj hA'
            rw [hd_at htl] at hy
            rw [hd_at HP.out] at hz
            obtain rfl := Option.some.inj hy
            obtain rfl := Option.some.inj hz
            have hql := HP.out
            clear hy hz hA'
            have b1 : (t : Int) < (H.length : Int) := by omega
            have b2 : (q : Int) < (H.length : Int) := by omega
            have b3 : (j : Int) < (m : Int) := by omega
            by_cases he : hd H t = hd H q
            · have heb : (hd H t == hd H q) = true := beq_iff_eq.2 he
              have HNo := Aside0.mk (rnd_no (R := R) (fun hf : fresh H part (rnd H part R k) k => hf t HMem.out (by rw [HQ.out]; exact he)))
              clear he
              go_wp2_with fail
              go_quiet (fail)
              go_wp2_with fail
              go_roundg (go - 1)
              case measure => omega
              case rel => exact ⟨k + 1, by omega, by go_num, ⟨by rw [HNo.out]; exact Kd.R_below HT.out (pw_below_drewN HBi.out _)⟩, ⟨pw_below_drewN (below_step HB.out HBi.out) _⟩⟩
            · have heb : (hd H t == hd H q) = false := beq_eq_false_iff_ne.2 he
              have HNe := Aside0.mk he
              clear he
              go_wp2_with fail
              go_quiet (fail)
              go_wp2_with fail
              go_roundg (gk - 1)
              case measure => omega
              case rel =>
                refine ⟨j + 1, by omega, by go_num, ⟨fun u hu => ?_⟩, ⟨pw_below_drewN HBi.out _⟩⟩
                rw [HTk.out] at hu
                rcases List.mem_append.1 hu with hu | hu
                · exact HJ.out u hu
                · rw [List.mem_singleton.1 hu]; exact HNe.out
          · have hj : j = m := by omega
            subst hj
            have HYes : Aside0 (takenI (rnd H part R k) ++ [(q : Int)] = takenI (rnd H part R (k + 1))) := ⟨by
              rw [rnd_yes (by rw [HM.out]; exact hmr) (fun t ht => by
                rw [HQ.out]
                refine HJ.out t ?_
                rw [List.take_of_length_le (by rw [HM.out]; exact Nat.le_refl _)]
                exact ht), HQ.out]
              unfold takenI
              rw [List.map_append]
              rfl⟩
            have HTi := Aside0.mk (Kd.R_below HT.out HBi.out)
            have HBo := Aside0.mk (below_step HB.out HBi.out)
            have HLk := Aside0.mk (show (takenI (rnd H part R k)).length ≤ 16 by unfold takenI; rw [List.length_map, HM.out]; omega)
            clear HJ
            go_wp2_with (first | ((with_reducible refine gate_builtin (b := .append) (xs := #[.tmp 46, .tmp 48]) rfl ?_); at_builtin; refine Kd.R_append (Kd.int .i64) (w0 := w) w.heap.size rfl (.tmp 46) (.tmp 48) 36 3 (.int .i64 0) 8 rfl Tryd.underlying36 infoInt rfl (by decide) (by decide) (.slice AT j cT) (takenI (rnd H part R k)) (q : Int) [.int .i64 (q : Int)] (fun _ => True) (fun _ => False) rfl rfl rfl (fun _ hk => hk.elim) (fun _ _ => trivial) HTi.out HBo.out HBo.out.size (by have h1 := HLk.out; omega) ?_; intro v1 w1 HR1 hb1 hg1 hat1; have HR1 := Aside0.mk HR1; have HB1 := Aside0.mk hb1; clear hb1 hg1 hat1) | fail)
            go_roundg (go - 1)
            case measure => omega
            case rel => exact ⟨k + 1, by omega, by go_num, ⟨by rw [← HYes.out]; exact HR1.out⟩, HB1⟩
      · have HFull := Aside0.mk (show walkL H part R = takenI (rnd H part R k) from by
          unfold walkL takenI
          rw [← hkg, rnd_full (by rw [HM.out]; omega)])
        have t2 : decide (m < R) = false := decide_eq_false hmr
        go_wp2_with fail
        rw [Exit.noGoto_ret]
        go_ret
        exact ⟨_, rfl, by rw [HFull.out]; exact HT.out, HB.out⟩
    · have HFull := Aside0.mk (show walkL H part R = takenI (rnd H part R k) from by
        unfold walkL takenI
        rw [show H.length = k by omega])
      go_wp2_with fail
      rw [Exit.noGoto_ret]
      go_ret
      exact ⟨_, rfl, by rw [HFull.out]; exact HT.out, HB.out⟩
end Go.Proofs.YtkcpeanimmjajaaDoor.Ring
