import Derived.Test.YtkcpeanimmjajaaDoorHInv
namespace Go.Proofs.YtkcpeanimmjajaaDoor.Ring
open Go.RowKit Go.Proofs.YtkcpeanimmjajaaDoorW.PrintWords Go.Proofs.YtkcpeanimmjajaaDoorW.PrintLast Go.Proofs.YtkcpeanimmjajaaDoorW.PrintMore Go.Proofs.YtkcpeanimmjajaaDoor.PRingWalks
set_option linter.unusedVariables false

set_option maxHeartbeats 400000 in
theorem within_calls (a b c : Int) (w : World) :
    Calls Tryd.prog 40 #[.int .i64 a, .int .i64 b, .int .i64 c] w fun e w' => e = .returned (.bool (decide (b ≤ a ∧ a ≤ c))) ∧ w' = w := by
  by_cases h : b ≤ a
  · have t : decide (b ≤ a) = true := by simpa using h
    go_enter Tryd.func40, Tryd.ntmps40
    go_wp2
    go_ret
    exact ⟨ret_bool (by first | (simp; done) | (simp; omega) | (simp [h]; done)), rfl⟩
  · have t : decide (b ≤ a) = false := by simpa using h
    go_enter Tryd.func40, Tryd.ntmps40
    go_wp2
    go_ret
    exact ⟨ret_bool (by first | (simp; done) | (simp; omega) | (simp [h]; done)), rfl⟩

/-- What homes hands back. -/
def HomesPost (c : Clu) (w : World) (e : Ending) (w' : World) : Prop :=
  (¬ Dealt c.nodes ∧ e = .returned (.tuple #[.slice none 0 0, .int .i64 66]) ∧ Below w.heap.size w w') ∨
  (Dealt c.nodes ∧ ∃ g H, e = .returned (.tuple #[.slice (some ⟨g, 0, none⟩) (partsN c.nodes) (partsN c.nodes), .int .i64 0]) ∧ HomesOf c.nodes H ∧ w.heap.size ≤ g ∧ w'.heap[g]? = some (.cells (intCells H) 3 (0, 0)) ∧ Below w.heap.size w w')

set_option maxHeartbeats 8000000 in
set_option maxRecDepth 100000 in
theorem homes_calls (c : Clu) (A : Option Addr) (cap : Nat) (w : World) (HR : Kd.C kN w A c.nodes.length c.nodes) (hok : c.ok) (hn : c.nodes.length ≤ 1024) :
    Calls Tryd.prog 67 #[.agg (c.cells A cap)] w (HomesPost c w) := by
  have HR' := Aside0.mk HR
  clear HR
  have hPb := partsN_take c hok hn c.nodes.length
  rw [List.take_of_length_le (Nat.le_refl _)] at hPb
  go_enter Tryd.func67, Tryd.ntmps67
  go_wp2_with (first | ((with_reducible refine gate_dst (N := 1) rfl ?_); refine new_event ?hg (N := 1) ?hd (c.cells A cap) 24 ?hr ?_; (case hd => rfl); (case hg => rfl); (case hr => first | (go_simp; done) | (go_simp; rfl)); intro gb w1 GE HX HB; have hc22 : w1.cell? ⟨gb, 22, none⟩ = some (.slice A c.nodes.length cap) := (blk_cell HX.out 22).trans rfl))
  clear hc22
  go_loopw [4, 16] (fun v i wr => ∃ k : Nat, k ≤ c.nodes.length ∧ i = .int .i64 k ∧ v = .int .i64 (partsN (c.nodes.take k)) ∧ Aside0 (wr.heap[gb]? = some (.cells (c.cells A cap) 24 (0, 0))) ∧ Aside0 (Below w.heap.size w wr)) (fun _ i _ => c.nodes.length - (intOf i).toNat)
  case atStart => exact ⟨0, Nat.zero_le _, rfl, rfl, HX, HB⟩
  case round =>
    clear HX HB
    obtain ⟨k, hk, rfl, rfl, HX, HB⟩ := hrel
    have hb := partsN_take c hok hn k
    by_cases hlt : k < c.nodes.length
    · obtain ⟨ad, A1, c1, nd, rfl, hnd, hz0, hz1, hl1, hC1⟩ := node_at (Kd.C_below HR'.out HB.out) k hlt
      have hb1 := partsN_take c hok hn (k + 1)
      have HS := Aside0.mk (partsN_snoc c.nodes k nd hnd)
      rw [HS.out] at hb1
      clear hnd hC1
      go_wp2_with (first | ((with_reducible refine gate_dst (N := 6) rfl ?_); refine new_event ?hg (N := 6) ?hd (#[.int .i64 0, .slice none 0 0]) 56 ?hr ?_; (case hd => rfl); (case hg => rfl); (case hr => first | (go_simp; done) | (go_simp; rfl)); intro gn w2 GN HXn HB2; clear hz0 hz1) | ((with_reducible refine gate_store (t := 56) (p := 6) (v := .tmp 19) rfl ?_); refine store_row_event rfl 56 (.tmp 6) (.tmp 19) rfl gn (#[.int .i64 nd.f0, .slice A1 nd.f1.length c1]) rfl rfl 56 _ HXn.out ?si rfl ?so ?_; (case si => kernel_rfl); (case so => (first | exact intCells_one _ | rfl | simp [Value.oneCell'])); intro w3 HXn3 HG3; have hs1 : w3.cell? ⟨gn, 1, none⟩ = some (.slice A1 nd.f1.length c1) := (blk_cell HXn3.out 1).trans rfl))
      have HBx := Aside0.mk (below_row (below_step HB.out HB2.out) (Nat.le_trans HB.out.size GN.out) HG3.out)
      have HXx := Aside0.mk (blk_grown (blk_below HX.out HB2.out) HG3.out (fun e => by cases e; have := blk_lt HX.out; have := GN.out; omega))
      clear hs1
      go_roundw
      case rel => exact ⟨k + 1, by omega, by go_num, by rw [HS.out]; go_num, HXx, HBx⟩
      case measure => simp [intOf]; omega
    · have hPk : partsN (c.nodes.take k) = partsN c.nodes := by rw [List.take_of_length_le (by omega)]
      rw [hPk]
      have HPk := Aside0.mk hPk
      clear hPk
      go_wp2_with fail
      refine (within_calls _ _ _ _).mono ?_
      rintro e w' ⟨rfl, rfl⟩
      by_cases hr : 1 ≤ partsN c.nodes ∧ partsN c.nodes ≤ 64
      · obtain ⟨hr1, hr2⟩ := hr
        have t1 : decide ((1 : Int) ≤ (partsN c.nodes : Int) ∧ (partsN c.nodes : Int) ≤ 64) = true := by simp; omega
        rw [t1]
        go_wp2_with (first | ((with_reducible refine gate_dst (N := 30) rfl ?_); refine make_event rfl 36 3 (.tmp 29) (.tmp 29) rfl (partsN c.nodes) rfl rfl Tryd.underlying36 (.int .i64 0) 8 info3 rfl (by omega) (by omega) ?_; intro gh w5 GEh HXh HBh))
        have HX5 := Aside0.mk (blk_below HX.out HBh.out)
        have HB5 := Aside0.mk (below_step HB.out HBh.out)
        have GEh' := Aside0.mk (Nat.le_trans HB.out.size GEh.out)
        have hne := Aside0.mk (Nat.ne_of_lt (Nat.lt_of_lt_of_le (blk_lt HX.out) GEh.out))
        rw [intCells_replicate] at HXh
        clear HX HB HBh
        go_loopw [33] (fun v wr => ∃ (k : Nat) (H : List Int), k ≤ partsN c.nodes ∧ v = .int .i64 k ∧ Aside0 (H.length = partsN c.nodes ∧ ∀ j : Nat, j < k → H[j]? = some (-1)) ∧ Aside0 (wr.heap[gh]? = some (.cells (intCells H) 3 (0, 0))) ∧ Aside0 (wr.heap[gb]? = some (.cells (c.cells A cap) 24 (0, 0))) ∧ Aside0 (Below w.heap.size w wr)) (fun v _ => partsN c.nodes - (intOf v).toNat)
        case atStart => exact ⟨0, _, Nat.zero_le _, rfl, ⟨by simp, fun j hj => by omega⟩, HXh, HX5, HB5⟩
        case round =>
          clear HXh HX5 HB5
          obtain ⟨k, H, hk, rfl, HH, HXh, HX, HB⟩ := hrel
          by_cases hlt : k < partsN c.nodes
          · have hz := (blk_cell HXh.out k).trans (intCells_get (List.getElem?_eq_getElem (l := H) (by have := HH.out.1; omega)))
            have hf := blk_frozen HXh.out k
            go_wp2_with (first | ((with_reducible refine gate_store (t := 3) (p := 38) (v := .const (.int .i64 (-1))) rfl ?_); refine store_cell_event rfl 3 38 (.const (.int .i64 (-1))) rfl rfl gh k (.int .i64 (-1)) 3 (intCells H) HXh.out ?hr ?_; (case hr => first | (go_simp; done) | (go_simp; rfl)); intro w6 HX6 HG6; clear hz hf))
            rw [intCells_set] at HX6
            have HXx := Aside0.mk (blk_grown HX.out HG6.out (fun e => by cases e; exact hne.out rfl))
            have HBx := Aside0.mk (below_row HB.out GEh'.out HG6.out)
            go_roundw
            case rel =>
              refine ⟨k + 1, H.set k (-1), by omega, by go_num, ⟨by rw [List.length_set]; exact HH.out.1, fun j hj => ?_⟩, HX6, HXx, HBx⟩
              rcases Nat.lt_succ_iff_lt_or_eq.1 hj with h1 | h1
              · rw [List.getElem?_set_ne (by omega)]; exact HH.out.2 j h1
              · subst h1; rw [List.getElem?_set_self (by have := HH.out.1; omega)]
            case measure => simp [intOf]; omega
          · have HI := Aside0.mk (hinv_start c.nodes HH.out.1 (fun j hj => HH.out.2 j (by omega)))
            have hc22 : wr.cell? ⟨gb, 22, none⟩ = some (.slice A c.nodes.length cap) := (blk_cell HX.out 22).trans rfl
            go_wp2_with fail
            clear hc22 HH
            go_loopw [43] (fun v wr => ∃ (k : Nat) (H : List Int), k ≤ c.nodes.length ∧ v = .int .i64 k ∧ Aside0 (HInv c.nodes (partsN c.nodes) k (flat (c.nodes.take k)) H) ∧ Aside0 (∀ nd ∈ c.nodes.take k, SortedL nd.f1) ∧ Aside0 (wr.heap[gh]? = some (.cells (intCells H) 3 (0, 0))) ∧ Aside0 (wr.heap[gb]? = some (.cells (c.cells A cap) 24 (0, 0))) ∧ Aside0 (Below w.heap.size w wr)) (fun v _ => c.nodes.length - (intOf v).toNat)
            case atStart => exact ⟨0, H, Nat.zero_le _, rfl, ⟨by simpa [flat] using HI.out⟩, ⟨fun nd h => by simp at h⟩, HXh, HX, HB⟩
            case round =>
              clear HI HXh HX HB hlt hk
              obtain ⟨k, H, hk, rfl, HI, HS, HXh, HX, HB⟩ := hrel
              by_cases hlt : k < c.nodes.length
              · obtain ⟨ad, A1, c1, nd, rfl, hnd, hz0w, hz1w, hl1, hC1⟩ := node_at HR'.out k hlt
                have hz0 := pw_cell_below HB.out hz0w
                have hz1 := pw_cell_below HB.out hz1w
                have hnl := hok.2.2 nd (List.mem_of_getElem? hnd)
                have HM := Aside0.mk (List.mem_of_getElem? hnd)
                have HN := Aside0.mk hnd
                have HTk : Aside0 (c.nodes.take (k + 1) = c.nodes.take k ++ [nd]) := ⟨by
                  obtain ⟨h1, h2⟩ := List.getElem?_eq_some_iff.1 hnd
                  rw [List.take_succ_eq_append_getElem h1, h2]⟩
                have HC1 := Aside0.mk hC1
                clear hnd hC1 hz0w hz1w
                go_wp2_with (first | ((with_reducible refine gate_dst (N := 10) rfl ?_); refine new_event ?hg (N := 10) ?hd (#[.int .i64 0, .slice none 0 0]) 56 ?hr ?_; (case hd => rfl); (case hg => rfl); (case hr => first | (go_simp; done) | (go_simp; rfl)); intro gn w7 GN HXn HB7; clear hz0 hz1) | ((with_reducible refine gate_store (t := 56) (p := 10) (v := .tmp 47) rfl ?_); refine store_row_event rfl 56 (.tmp 10) (.tmp 47) rfl gn (#[.int .i64 nd.f0, .slice A1 nd.f1.length c1]) rfl rfl 56 _ HXn.out ?si rfl ?so ?_; (case si => kernel_rfl); (case so => (first | exact intCells_one _ | rfl | simp [Value.oneCell'])); intro w8 HXn8 HG8; have hs1 : w8.cell? ⟨gn, 1, none⟩ = some (.slice A1 nd.f1.length c1) := (blk_cell HXn8.out 1).trans rfl))
                have HB8 := Aside0.mk (below_row (below_step HB.out HB7.out) (Nat.le_trans HB.out.size GN.out) HG8.out)
                have HX8 := Aside0.mk (blk_grown (blk_below HX.out HB7.out) HG8.out (fun e => by cases e; have := blk_lt HX.out; have := GN.out; omega))
                have HXh8 := Aside0.mk (blk_grown (blk_below HXh.out HB7.out) HG8.out (fun e => by cases e; have := blk_lt HXh.out; have := GN.out; omega))
                clear hs1 HX HXh HB
                obtain ⟨b, hb, hcalls⟩ := sorted_calls A1 c1 nd.f1 w8 (Kd.C_below HC1.out HB8.out) hl1
                refine hcalls.mono ?_
                rintro e w' ⟨rfl, ⟨nq, rfl⟩⟩
                clear hcalls
                have HB9 := Aside0.mk (pw_below_drewN HB8.out nq)
                have HX9 := Aside0.mk (blk_drewN HX8.out nq)
                have HXh9 := Aside0.mk (blk_drewN HXh8.out nq)
                have HXn9 := Aside0.mk (blk_drewN HXn8.out nq)
                clear HB8 HX8 HXh8 HXn8 HXn HB7 HG8
                generalize w8.drewN nq = w9 at *
                have hs1 : w9.cell? ⟨gn, 1, none⟩ = some (.slice A1 nd.f1.length c1) := (blk_cell HXn9.out 1).trans rfl
                cases b with
                | false =>
                  have hf : Aside0 (¬ Dealt c.nodes) := ⟨fun h => absurd (hb.2 (h.2.2.2 nd HM.out).sorted) (by simp)⟩
                  clear hb
                  go_wp2_with fail
                  go_ret2
                  exact .inl ⟨hf.out, rfl, HB9.out⟩
                | true =>
                  have HSo := Aside0.mk (hb.1 rfl)
                  clear hb
                  go_wp2_with fail
                  clear hs1 HXn9
                  go_loopw [55] (fun v wr => ∃ (j : Nat) (H : List Int), j ≤ nd.f1.length ∧ v = .int .i64 j ∧ Aside0 (HInv c.nodes (partsN c.nodes) k (flat (c.nodes.take k) ++ nd.f1.take j) H) ∧ Aside0 (wr.heap[gh]? = some (.cells (intCells H) 3 (0, 0))) ∧ Aside0 (wr.heap[gb]? = some (.cells (c.cells (some ad) cap) 24 (0, 0))) ∧ Aside0 (Below w.heap.size w wr)) (fun v _ => nd.f1.length - (intOf v).toNat)
                  case atStart => exact ⟨0, H, Nat.zero_le _, rfl, ⟨by simpa using HI.out⟩, HXh9, HX9, HB9⟩
                  case round =>
                    clear HI HXh9 HX9 HB9
                    obtain ⟨j, H, hj, rfl, HI, HXh, HX, HB⟩ := hrel
                    by_cases hjt : j < nd.f1.length
                    · obtain ⟨ad2, x, rfl, hx, hzx⟩ := int_at (Kd.C_below HC1.out HB.out) j hjt
                      obtain ⟨R, hR⟩ := flat_split c.nodes k nd HN.out j x hx
                      have HR2 := Aside0.mk hR
                      have Hx := Aside0.mk hx
                      have Hmem : Aside0 (x ∈ flat c.nodes) := ⟨by rw [hR]; simp⟩
                      have Hmem2 := Aside0.mk (List.mem_of_getElem? hx)
                      have HTj : Aside0 (nd.f1.take (j + 1) = nd.f1.take j ++ [x]) := ⟨by
                        obtain ⟨h1, h2⟩ := List.getElem?_eq_some_iff.1 hx
                        rw [List.take_succ_eq_append_getElem h1, h2]⟩
                      clear hR hx
                      by_cases hx0 : x < 0
                      · have hf : Aside0 (¬ Dealt c.nodes) := ⟨not_dealt_out Hmem.out (.inl hx0)⟩
                        have t2 : decide (x < 0) = true := by simpa using hx0
                        go_wp2_with fail
                        go_ret2
                        exact .inl ⟨hf.out, rfl, HB.out⟩
                      · have t2 : decide (x < 0) = false := by simpa using hx0
                        by_cases hxP : (partsN c.nodes : Int) ≤ x
                        · have hf : Aside0 (¬ Dealt c.nodes) := ⟨not_dealt_out Hmem.out (.inr hxP)⟩
                          have t3 : decide ((partsN c.nodes : Int) ≤ x) = true := by simpa using hxP
                          go_wp2_with fail
                          go_ret2
                          exact .inl ⟨hf.out, rfl, HB.out⟩
                        · obtain ⟨m, rfl⟩ := Int.eq_ofNat_of_zero_le (Int.not_lt.1 hx0)
                          have hm : m < partsN c.nodes := by omega
                          have t3 : decide ((partsN c.nodes : Int) ≤ (m : Int)) = false := by simp; omega
                          have hlen := HI.out.1
                          obtain ⟨y, hy⟩ : ∃ y, H[m]? = some y := ⟨_, List.getElem?_eq_getElem (by omega)⟩
                          clear hlen
                          have hz := (blk_cell HXh.out m).trans (intCells_get hy)
                          have Hy := Aside0.mk hy
                          clear hy hx0 hxP
                          by_cases hy0 : 0 ≤ y
                          · have hf : Aside0 (¬ Dealt c.nodes) := ⟨not_dealt_twice HI.out rfl hm HR2.out Hy.out hy0⟩
                            have t4 : decide (0 ≤ y) = true := by simpa using hy0
                            go_wp2_with fail
                            go_ret2
                            exact .inl ⟨hf.out, rfl, HB.out⟩
                          · have t4 : decide (0 ≤ y) = false := by simpa using hy0
                            have hfz := blk_frozen HXh.out m
                            go_wp2_with (first | ((with_reducible refine gate_store (t := 3) (p := 76) (v := .tmp 75) rfl ?_); refine store_cell_event rfl 3 76 (.tmp 75) rfl rfl gh m (.int .i64 k) 3 (intCells H) HXh.out ?hr ?_; (case hr => first | (go_simp; done) | (go_simp; rfl)); intro w10 HX10 HG10; clear hz hfz hzx))
                            rw [intCells_set] at HX10
                            have HXx := Aside0.mk (blk_grown HX.out HG10.out (fun e => by cases e; exact hne.out rfl))
                            have HBx := Aside0.mk (below_row HB.out GEh'.out HG10.out)
                            go_roundw
                            case rel =>
                              refine ⟨j + 1, _, by omega, by go_num, ⟨?_⟩, HX10, HXx, HBx⟩
                              rw [HTj.out, ← List.append_assoc]
                              exact hinv_next HI.out HN.out Hmem2.out hm Hy.out (by omega)
                            case measure => simp [intOf]; omega
                    · have HTj : Aside0 (nd.f1.take j = nd.f1) := ⟨List.take_of_length_le (by omega)⟩
                      go_wp2_with fail
                      go_roundw
                      case rel =>
                        refine ⟨k + 1, H, by omega, by go_num, ⟨?_⟩, ⟨fun q hq => ?_⟩, HXh, HX, HB⟩
                        · have h1 := hinv_more HI.out
                          rw [HTj.out] at h1
                          rw [HTk.out]
                          simpa [flat] using h1
                        · rw [HTk.out, List.mem_append] at hq
                          rcases hq with hq | hq
                          · exact HS.out q hq
                          · rw [List.mem_singleton.1 hq]
                            exact HSo.out
                      case measure => simp [intOf]; omega
              · have hfl : c.nodes.take k = c.nodes := List.take_of_length_le (by omega)
                have HI' := HI.out
                have HS' := HS.out
                rw [hfl] at HI' HS'
                have HE := Aside0.mk (hinv_end HI' rfl hr1 hr2 HS')
                have HH := Aside0.mk HI'.1
                clear HI' HS' hfl
                go_wp2_with fail
                go_ret2
                exact .inr ⟨HE.out.1, gh, H, rfl, HE.out.2, GEh'.out, HXh.out, HB.out⟩
      · have t1 : decide ((1 : Int) ≤ (partsN c.nodes : Int) ∧ (partsN c.nodes : Int) ≤ 64) = false := by simp; omega
        rw [t1]
        go_wp2_with fail
        go_ret2
        exact .inl ⟨fun h => hr ⟨h.1, h.2.1⟩, rfl, HB.out⟩
end Go.Proofs.YtkcpeanimmjajaaDoor.Ring
