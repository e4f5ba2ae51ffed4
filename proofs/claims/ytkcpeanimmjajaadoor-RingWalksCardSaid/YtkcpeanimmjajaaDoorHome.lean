import Derived.Test.YtkcpeanimmjajaaDoorRnd
import Derived.Test.YtkcpeanimmjajaaDoorBase
namespace Go.Proofs.YtkcpeanimmjajaaDoor.Ring
open Go.RowKit Go.Proofs.YtkcpeanimmjajaaDoorW.PrintWords Go.Proofs.YtkcpeanimmjajaaDoorW.PrintLast Go.Proofs.YtkcpeanimmjajaaDoorW.PrintMore Go.Proofs.YtkcpeanimmjajaaDoor.PRingWalks
set_option linter.unusedVariables false

set_option maxHeartbeats 4000000 in
set_option maxRecDepth 100000 in
theorem home_calls (c : Clu) (A : Option Addr) (cap : Nat) (p : Int) (w : World) (HR : Kd.C kN w A c.nodes.length c.nodes) (hok : c.ok) (H : List Int) (hH : HomesOf c.nodes H) (hd0 : Dealt c.nodes) (hp0 : 0 ≤ p) (hp : p < (H.length : Int)) :
    Calls Tryd.prog 43 #[.agg (c.cells A cap), .int .i64 p] w fun e w' => e = .returned (.int .i64 (hd H p.toNat)) ∧ Below w.heap.size w w' := by
  obtain ⟨q, rfl⟩ := Int.eq_ofNat_of_zero_le hp0
  have hq : q < partsN c.nodes := by have := hH.1; omega
  rw [Int.toNat_natCast]
  have HR' := Aside0.mk HR
  have HAt := Aside0.mk (fun (i : Nat) (h : HomeAt c.nodes q i) => show hd H q = (i : Int) from by
    obtain ⟨i', h1, h2, h3⟩ := homes_hd hH hq
    rw [h1, home_unique hd0 hq h3 h])
  have HEx := Aside0.mk (homes_hd hH hq)
  have hn0 := hok.2.1
  clear HR hH hd0 hp0 hp hq
  go_enter Tryd.func43, Tryd.ntmps43
  go_wp2_with (first | ((with_reducible refine gate_dst (N := 2) rfl ?_); refine new_event ?hg (N := 2) ?hd (c.cells A cap) 24 ?hr ?_; (case hd => rfl); (case hg => rfl); (case hr => first | (go_simp; done) | (go_simp; rfl)); intro gb w1 GE HX HB))
  have hc22 : w1.cell? ⟨gb, 22, none⟩ = some (.slice A c.nodes.length cap) := (blk_cell HX.out 22).trans rfl
  go_loop [5] (fun i => ∃ k : Nat, k ≤ c.nodes.length ∧ i = .int .i64 k ∧ Aside0 (∀ (i : Nat) (nd : ND), i < k → c.nodes[i]? = some nd → (q : Int) ∉ nd.f1)) (fun i => c.nodes.length - (intOf i).toNat)
  case atStart => exact ⟨0, Nat.zero_le _, rfl, ⟨fun i nd h => by omega⟩⟩
  case round =>
    obtain ⟨k, hk, rfl, HK⟩ := hrel
    by_cases hlt : k < c.nodes.length
    · obtain ⟨ad, A1, c1, nd, rfl, hnd, hz0, hz1, hl1, hC1⟩ := node_at (Kd.C_below HR'.out HB.out) k hlt
      have hnl := hok.2.2 nd (List.mem_of_getElem? hnd)
      have HN := Aside0.mk hnd
      have HC1 := Aside0.mk hC1
      clear hnd hC1
      go_wp2
      go_loop [6] (fun i => ∃ j : Nat, j ≤ nd.f1.length ∧ i = .int .i64 j ∧ Aside0 (∀ m : Nat, m < j → nd.f1[m]? ≠ some (q : Int))) (fun i => nd.f1.length - (intOf i).toNat)
      case atStart => exact ⟨0, Nat.zero_le _, rfl, ⟨fun m h => by omega⟩⟩
      case round =>
        obtain ⟨j, hj, rfl, HJ⟩ := hrel
        by_cases hjt : j < nd.f1.length
        · obtain ⟨ad2, x, rfl, hx, hzx⟩ := int_at HC1.out j hjt
          have HX2 := Aside0.mk hx
          clear hx
          by_cases hxp : x = (q : Int)
          · have HFin := Aside0.mk (HAt.out k ⟨nd, HN.out, by rw [← hxp]; exact List.mem_of_getElem? HX2.out⟩)
            have hxb : (x == (q : Int)) = true := beq_iff_eq.2 hxp
            clear hxp
            go_wp2
            go_ret
            exact ⟨ret_i64 HFin.out.symm, HB.out⟩
          · have hxb : (x == (q : Int)) = false := beq_eq_false_iff_ne.2 hxp
            have HX1 := Aside0.mk hxp
            clear hxp
            go_wp2
            go_round
            case rel =>
              refine ⟨j + 1, by omega, by go_num, ⟨fun m hm => ?_⟩⟩
              rcases Nat.lt_succ_iff_lt_or_eq.1 hm with h | h
              · exact HJ.out m h
              · subst h
                rw [HX2.out]
                intro he
                exact HX1.out (Option.some.inj he)
            case measure => simp [intOf]; omega
        · go_wp2
          go_round
          case rel =>
            refine ⟨k + 1, by omega, by go_num, ⟨fun i nd2 hi hnd2 => ?_⟩⟩
            rcases Nat.lt_succ_iff_lt_or_eq.1 hi with h | h
            · exact HK.out i nd2 h hnd2
            · subst h
              obtain rfl : nd = nd2 := Option.some.inj (HN.out.symm.trans hnd2)
              intro hm
              obtain ⟨m, hm1, hm2⟩ := List.mem_iff_getElem.1 hm
              exact HJ.out m (by omega) (by rw [List.getElem?_eq_getElem hm1, hm2])
          case measure => simp [intOf]; omega
    · exfalso
      obtain ⟨i, h1, h2, nd, h3, h4⟩ := HEx.out
      exact HK.out i nd (by omega) h3 h4
end Go.Proofs.YtkcpeanimmjajaaDoor.Ring
