import Derived.Test.YtkcpeanimmjajaaDoorTimes
namespace Go.Proofs.YtkcpeanimmjajaaDoor.Ring
open Go.RowKit Go.Proofs.YtkcpeanimmjajaaDoorW.PrintWords Go.Proofs.YtkcpeanimmjajaaDoorW.PrintLast Go.Proofs.YtkcpeanimmjajaaDoorW.PrintMore Go.Proofs.YtkcpeanimmjajaaDoor.PRingWalks
set_option linter.unusedVariables false

/-- Does a list rise? -/
def Rises (l : List Int) : Prop := ∀ j a b, l[j]? = some a → l[j + 1]? = some b → a < b
/-- Are the partitions dealt: 1 to 64, each of them once, each list rising? -/
def Dealt (l : List ND) : Prop := 1 ≤ partsN l ∧ partsN l ≤ 64 ∧ (∀ i : Nat, i < partsN l → timesN i l = 1) ∧ ∀ nd ∈ l, Rises nd.f1
noncomputable def dealtB (l : List ND) : Bool := @decide (Dealt l) (Classical.propDecidable _)
theorem dealtB_yes {l : List ND} (h : Dealt l) : dealtB l = true := by unfold dealtB; exact @decide_eq_true _ (Classical.propDecidable _) h
theorem dealtB_no {l : List ND} (h : ¬ Dealt l) : dealtB l = false := by unfold dealtB; exact @decide_eq_false _ (Classical.propDecidable _) h

theorem all_snoc {p : Nat → Prop} {k : Nat} (h : ∀ j, j < k → p j) (hk : p k) : ∀ j, j < k + 1 → p j := fun j hj => by
  rcases Nat.lt_succ_iff_lt_or_eq.1 hj with h1 | h1
  · exact h j h1
  · exact h1 ▸ hk
theorem add_pos (a : Addr) (n : Nat) (h : 0 < n) : a.add n = ⟨a.block, a.off + n, none⟩ := by
  unfold Addr.add
  rw [if_neg (by omega)]
theorem i64_1 (a : Nat) : ((a : Int) != 1) = !decide (a = 1) := by
  by_cases h : a = 1
  · subst h; rfl
  · have : ((a : Int) == 1) = false := beq_eq_false_iff_ne.2 (by omega)
    simp [bne, this, h]

set_option maxHeartbeats 4000000 in
set_option maxRecDepth 100000 in
theorem dealt_calls (c : Clu) (A : Option Addr) (cap : Nat) (w : World) (HR : Kd.C kN w A c.nodes.length c.nodes) (hok : c.ok) (hn : c.nodes.length ≤ 1024) :
    Calls Tryd.prog 38 #[.agg (c.cells A cap)] w fun e w' => e = .returned (.bool (dealtB c.nodes)) ∧ Below w.heap.size w w' := by
  have HR' := Aside0.mk HR
  clear HR
  have hP := partsN_take c hok hn c.nodes.length
  rw [List.take_of_length_le (Nat.le_refl _)] at hP
  go_enter Tryd.func38, Tryd.ntmps38
  go_wp2_with (first | ((with_reducible refine gate_dst (N := 1) rfl ?_); refine new_event ?hg (N := 1) ?hd (c.cells A cap) 24 ?hr ?_; (case hd => rfl); (case hg => rfl); (case hr => first | (go_simp; done) | (go_simp; rfl)); intro gb w1 GE HX HB) | ((with_reducible refine gate_dst (N := 8) rfl ?_); refine wpList_load_row rfl 24 (.tmp 1) rfl gb rfl 24 (c.cells A cap) (0, 0) _ HX.out Tryd.underlying24 rfl (by kernel_rfl) ?_))
  go_at_call 39
  refine (parts_calls c A cap w1 (Kd.C_below HR'.out HB.out) hok hn).mono ?_
  rintro e w2 ⟨rfl, hb2⟩
  have HB2 := Aside0.mk (below_step HB.out hb2)
  have HX2 := Aside0.mk (blk_below HX.out hb2)
  clear hb2
  by_cases hr : 1 ≤ partsN c.nodes ∧ partsN c.nodes ≤ 64
  · obtain ⟨hr1, hr2⟩ := hr
    have t1 : decide ((partsN c.nodes : Int) < 1) = false := by simp; omega
    have t2 : decide ((64 : Int) < (partsN c.nodes : Int)) = false := by simp; omega
    go_wp2_with fail
    go_loopw [4] (fun v wr => ∃ i : Nat, i ≤ partsN c.nodes ∧ v = .int .i64 i ∧ Aside0 (∀ j : Nat, j < i → timesN j c.nodes = 1) ∧ Aside0 (wr.heap[gb]? = some (.cells (c.cells A cap) 24 (0, 0))) ∧ Aside0 (Below w.heap.size w wr)) (fun v _ => partsN c.nodes - (intOf v).toNat)
    case atStart => exact ⟨0, Nat.zero_le _, rfl, ⟨fun j hj => by omega⟩, HX2, HB2⟩
    case round =>
      clear HX2 HB2
      obtain ⟨i, hi, rfl, HA, HX3, HB3⟩ := hrel
      by_cases hlt : i < partsN c.nodes
      · go_wp2_with (first | ((with_reducible refine gate_dst (N := 21) rfl ?_); refine wpList_load_row rfl 24 (.tmp 1) rfl gb rfl 24 (c.cells A cap) (0, 0) _ HX3.out Tryd.underlying24 rfl (by kernel_rfl) ?_))
        go_at_call 68
        refine (times_calls c A cap i wr (Kd.C_below HR'.out HB3.out) hok hn).mono ?_
        rintro e w4 ⟨rfl, hb4⟩
        have HB4 := Aside0.mk (below_step HB3.out hb4)
        have HX4 := Aside0.mk (blk_below HX3.out hb4)
        clear hb4
        by_cases ht : timesN i c.nodes = 1
        · have t3 : ((timesN i c.nodes : Int) != 1) = false := by rw [ht]; rfl
          have HT := Aside0.mk ht
          clear ht
          go_wp2_with fail
          go_roundw
          case rel => exact ⟨i + 1, by omega, by go_num, ⟨all_snoc HA.out HT.out⟩, HX4, HB4⟩
          case measure => simp [intOf]; omega
        · have t3 : ((timesN i c.nodes : Int) != 1) = true := by rw [i64_1]; simpa using ht
          have hf := Aside0.mk (dealtB_no (fun h : Dealt c.nodes => ht (h.2.2.1 i hlt)))
          clear ht
          go_wp2_with fail
          go_ret
          exact ⟨ret_bool hf.out.symm, HB4.out⟩
      · have HAll := Aside0.mk (fun (j : Nat) (hj : j < partsN c.nodes) => HA.out j (by omega))
        clear HA
        obtain ⟨wo, rfl⟩ : ∃ wo : World, wo = wr := ⟨_, rfl⟩
        have hc22 : wo.cell? ⟨gb, 22, none⟩ = some (.slice A c.nodes.length cap) := (blk_cell HX3.out 22).trans rfl
        go_wp2_with fail
        clear hc22
        go_loopw [5] (fun v wr => ∃ k : Nat, k ≤ c.nodes.length ∧ v = .int .i64 k ∧ Aside0 (∀ nd ∈ c.nodes.take k, Rises nd.f1) ∧ Aside0 (wr.heap[gb]? = some (.cells (c.cells A cap) 24 (0, 0))) ∧ Aside0 (Below w.heap.size w wr)) (fun v _ => c.nodes.length - (intOf v).toNat)
        case atStart => exact ⟨0, Nat.zero_le _, rfl, ⟨fun nd h => by simp at h⟩, HX3, HB3⟩
        case round =>
          clear HX3 HB3
          obtain ⟨k, hk, rfl, HK, HX3, HB3⟩ := hrel
          by_cases hkt : k < c.nodes.length
          · obtain ⟨ad, A1, c1, nd, rfl, hnd, hz0, hz1, hl1, hC1⟩ := node_at (Kd.C_below HR'.out HB3.out) k hkt
            have hc22 : wr.cell? ⟨gb, 22, none⟩ = some (.slice (some ad) c.nodes.length cap) := (blk_cell HX3.out 22).trans rfl
            have hnl := hok.2.2 nd (List.mem_of_getElem? hnd)
            have HM := Aside0.mk (List.mem_of_getElem? hnd)
            have HTk : Aside0 (c.nodes.take (k + 1) = c.nodes.take k ++ [nd]) := ⟨by
              obtain ⟨h1, h2⟩ := List.getElem?_eq_some_iff.1 hnd
              rw [List.take_succ_eq_append_getElem h1, h2]⟩
            clear hnd
            have HC1 := Aside0.mk hC1
            clear hC1
            go_wp2_with fail
            obtain ⟨wi, rfl⟩ : ∃ wi : World, wi = wr := ⟨_, rfl⟩
            clear hc22 hz0 hz1
            go_loopw [7] (fun v wr => ∃ m : Nat, (m + 1 ≤ nd.f1.length ∨ m = 0) ∧ v = .int .i64 ((m : Int) + 1) ∧ Aside0 (∀ i a b, i < m → nd.f1[i]? = some a → nd.f1[i + 1]? = some b → a < b) ∧ Aside0 (Below wi.heap.size wi wr)) (fun v _ => nd.f1.length - (intOf v).toNat)
            case atStart => exact ⟨0, .inr rfl, rfl, ⟨fun i a b h => by omega⟩, ⟨Below.refl _ _⟩⟩
            case round =>
              obtain ⟨m, hm, rfl, HJ, HQ⟩ := hrel
              by_cases hmt : m + 1 < nd.f1.length
              · obtain ⟨ad2, x, rfl, hx, hzx⟩ := int_at (Kd.C_below HC1.out HQ.out) (m + 1) hmt
                obtain ⟨ad3, y, he, hy, hzy⟩ := int_at (Kd.C_below HC1.out HQ.out) m (by omega)
                cases he
                have HE := Aside0.mk hx
                have HF := Aside0.mk hy
                clear hx hy
                rw [add_pos _ _ (by omega)] at hzx
                go_wp2_with fail
                have e1 : IntKind.i64.wrap ((m : Int) + 1 - 1) = (m : Int) := by rw [IntKind.wrap_i64]; omega
                have e2 : ((m : Int) + 1).toNat = m + 1 := by omega
                have b1 : (0 : Int) ≤ (m : Int) + 1 := by omega
                have b2 : (m : Int) + 1 < (nd.f1.length : Int) := by omega
                have b3 : (m : Int) < (nd.f1.length : Int) := by omega
                by_cases hxy : x ≤ y
                · have hf := Aside0.mk (dealtB_no (fun h : Dealt c.nodes => absurd (h.2.2.2 nd HM.out m y x HF.out HE.out) (by omega)))
                  go_quiet (fail)
                  clear e1 e2
                  go_wp2_with fail
                  go_ret
                  exact ⟨ret_bool hf.out.symm, pw_below_drewN (below_step HB3.out HQ.out) _⟩
                · have HXY := Aside0.mk hxy
                  go_quiet (fail)
                  clear e1 e2
                  go_wp2_with fail
                  go_roundw
                  case rel =>
                    refine ⟨m + 1, .inl (by omega), by go_num, ⟨fun i a b hi ha hb => ?_⟩, ⟨pw_below_drewN HQ.out _⟩⟩
                    rcases Nat.lt_succ_iff_lt_or_eq.1 hi with h1 | h1
                    · exact HJ.out i a b h1 ha hb
                    · subst h1
                      have e3 := HE.out
                      have e4 := HF.out
                      rw [ha] at e4
                      rw [hb] at e3
                      cases e3
                      cases e4
                      have := HXY.out
                      omega
                  case measure => simp [intOf]; omega
              · have hmt2 : ¬ ((m : Int) + 1 < (nd.f1.length : Int)) := by omega
                go_wp2_with fail
                go_roundw
                case rel =>
                  refine ⟨k + 1, by omega, by go_num, ⟨fun q hq => ?_⟩, ⟨blk_below HX3.out HQ.out⟩, ⟨below_step HB3.out HQ.out⟩⟩
                  rw [HTk.out, List.mem_append] at hq
                  rcases hq with hq | hq
                  · exact HK.out q hq
                  · rw [List.mem_singleton.1 hq]
                    intro i a b ha hb
                    have := (List.getElem?_eq_some_iff.1 hb).1
                    exact HJ.out i a b (by omega) ha hb
                case measure => simp [intOf]; omega
          · have hc22 : wr.cell? ⟨gb, 22, none⟩ = some (.slice A c.nodes.length cap) := (blk_cell HX3.out 22).trans rfl
            have hf := Aside0.mk (dealtB_yes (l := c.nodes) ⟨hr1, hr2, HAll.out, fun nd h => HK.out nd (by rw [List.take_of_length_le (by omega)]; exact h)⟩)
            go_wp2_with fail
            go_ret
            exact ⟨ret_bool hf.out.symm, HB3.out⟩
  · have hf := Aside0.mk (dealtB_no (fun h : Dealt c.nodes => hr ⟨h.1, h.2.1⟩))
    go_wp2_with fail
    all_goals
      go_ret
      exact ⟨ret_bool hf.out.symm, HB2.out⟩
end Go.Proofs.YtkcpeanimmjajaaDoor.Ring
