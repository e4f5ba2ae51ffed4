import Derived.Test.YtkcpeanimmjajaaDoorParts
namespace Go.Proofs.YtkcpeanimmjajaaDoor.Ring
open Go.RowKit Go.Proofs.YtkcpeanimmjajaaDoorW.PrintWords Go.Proofs.YtkcpeanimmjajaaDoorW.PrintLast Go.Proofs.YtkcpeanimmjajaaDoorW.PrintMore Go.Proofs.YtkcpeanimmjajaaDoor.PRingWalks
set_option linter.unusedVariables false

/-- How often a number stands in a list; in the lists of nodes. -/
def cnt (p : Int) (l : List Int) : Nat := (l.filter fun x => x == p).length
def timesN (p : Int) (l : List ND) : Nat := (l.map fun nd => cnt p nd.f1).sum
theorem cnt_snoc (p : Int) (l : List Int) (j : Nat) (x : Int) (h : l[j]? = some x) : cnt p (l.take (j + 1)) = cnt p (l.take j) + if x = p then 1 else 0 := by
  obtain ⟨hk, rfl⟩ := List.getElem?_eq_some_iff.1 h
  unfold cnt
  rw [List.take_succ_eq_append_getElem hk, List.filter_append, List.length_append]
  by_cases e : l[j] = p <;> simp [e]
theorem cnt_le (p : Int) (l : List Int) : cnt p l ≤ l.length := List.length_filter_le _ _
theorem timesN_snoc (p : Int) (l : List ND) (k : Nat) (nd : ND) (h : l[k]? = some nd) : timesN p (l.take (k + 1)) = timesN p (l.take k) + cnt p nd.f1 := by
  obtain ⟨hk, rfl⟩ := List.getElem?_eq_some_iff.1 h
  unfold timesN
  rw [List.take_succ_eq_append_getElem hk]
  simp only [List.map_append, List.sum_append, List.map_cons, List.map_nil, List.sum_cons, List.sum_nil, Nat.add_zero]
theorem timesN_le (p : Int) (l : List ND) : timesN p l ≤ partsN l := by
  unfold timesN partsN
  induction l with
  | nil => simp
  | cons x r ih =>
    have := cnt_le p x.f1
    simp only [List.map_cons, List.sum_cons]
    omega
/-- Element k of a row of numbers. -/
theorem int_at {w : World} {A : Option Addr} {n : Nat} {l : List Int} (h : (Kd.int .i64).C w A n l) (k : Nat) (hk : k < n) : ∃ ad x, A = some ad ∧ l[k]? = some x ∧ w.cell? (ad.add k) = some (.int .i64 x) := by
  obtain ⟨ad, c, e, _, hK, hc⟩ := Kd.C_get h (0 : Int) (k : Int) (by omega) (by omega)
  have hl : l.length = n := h.1
  have hK' : c = [.int .i64 (l.getD k 0)] := hK
  subst hK'
  refine ⟨ad, _, e, ?_, by have hq := hc 0 _ rfl; rwa [Int.toNat_natCast, show (Kd.int .i64).sz = 1 from rfl, Nat.mul_one, Nat.add_zero] at hq⟩
  rw [List.getD_eq_getElem?_getD, List.getElem?_eq_getElem (by omega)]
  rfl

set_option maxHeartbeats 2000000 in
set_option maxRecDepth 100000 in
theorem times_calls (c : Clu) (A : Option Addr) (cap : Nat) (p : Int) (w : World) (HR : Kd.C kN w A c.nodes.length c.nodes) (hok : c.ok) (hn : c.nodes.length ≤ 1024) :
    Calls Tryd.prog 68 #[.agg (c.cells A cap), .int .i64 p] w fun e w' => e = .returned (.int .i64 (timesN p c.nodes)) ∧ Below w.heap.size w w' := by
  have HR' := Aside0.mk HR
  clear HR
  go_enter Tryd.func68, Tryd.ntmps68
  go_wp2_with (first | ((with_reducible refine gate_dst (N := 2) rfl ?_); refine new_event ?hg (N := 2) ?hd (c.cells A cap) 24 ?hr ?_; (case hd => rfl); (case hg => rfl); (case hr => first | (go_simp; done) | (go_simp; rfl)); intro gb w1 GE HX HB))
  have hc22 : w1.cell? ⟨gb, 22, none⟩ = some (.slice A c.nodes.length cap) := (blk_cell HX.out 22).trans rfl
  go_loop [5, 6] (fun v i => ∃ k : Nat, k ≤ c.nodes.length ∧ i = .int .i64 k ∧ v = .int .i64 (timesN p (c.nodes.take k))) (fun _ i => c.nodes.length - (intOf i).toNat)
  case atStart => exact ⟨0, Nat.zero_le _, rfl, rfl⟩
  case round =>
    obtain ⟨k, hk, rfl, rfl⟩ := hrel
    have hb := partsN_take c hok hn k
    by_cases hlt : k < c.nodes.length
    · obtain ⟨ad, A1, c1, nd, rfl, hnd, hz0, hz1, hl1, hC1⟩ := node_at (Kd.C_below HR'.out HB.out) k hlt
      have hb1 := partsN_take c hok hn (k + 1)
      have HS := Aside0.mk (timesN_snoc p c.nodes k nd hnd)
      have hb2 := timesN_le p (c.nodes.take (k + 1))
      rw [HS.out] at hb2
      have hnl := hok.2.2 nd (List.mem_of_getElem? hnd)
      have hb0 := timesN_le p (c.nodes.take k)
      clear hnd
      have HC1 := Aside0.mk hC1
      clear hC1
      go_wp2
      go_loop [5, 7] (fun v i => ∃ j : Nat, j ≤ nd.f1.length ∧ i = .int .i64 j ∧ v = .int .i64 ((timesN p (c.nodes.take k) : Nat) + (cnt p (nd.f1.take j) : Nat) : Int)) (fun _ i => nd.f1.length - (intOf i).toNat)
      case atStart => exact ⟨0, Nat.zero_le _, rfl, by simp [cnt]⟩
      case round =>
        obtain ⟨j, hj, rfl, rfl⟩ := hrel
        have hb3 := cnt_le p (nd.f1.take j)
        have hb4 : (nd.f1.take j).length ≤ j := List.length_take_le _ _
        by_cases hjt : j < nd.f1.length
        · obtain ⟨ad2, x, rfl, hx, hzx⟩ := int_at HC1.out j hjt
          have HT := Aside0.mk (cnt_snoc p nd.f1 j x hx)
          have hb5 := cnt_le p nd.f1
          clear hx
          by_cases hxp : x = p
          · have hxb : (x == p) = true := beq_iff_eq.2 hxp
            have HX1 := Aside0.mk hxp
            clear hxp
            go_wp2
            go_round
            case rel => exact ⟨j + 1, by omega, by go_num, by rw [HT.out, if_pos HX1.out]; go_num⟩
            case measure => simp [intOf]; omega
          · have hxb : (x == p) = false := beq_eq_false_iff_ne.2 hxp
            have HX1 := Aside0.mk hxp
            clear hxp
            go_wp2
            go_round
            case rel => exact ⟨j + 1, by omega, by go_num, by rw [HT.out, if_neg HX1.out]; go_num⟩
            case measure => simp [intOf]; omega
        · go_wp2
          go_round
          case rel => exact ⟨k + 1, by omega, by go_num, by rw [HS.out, show nd.f1.take j = nd.f1 from List.take_of_length_le (by omega)]; go_num⟩
          case measure => simp [intOf]; omega
    · go_wp2
      go_ret
      exact ⟨ret_i64 (by rw [List.take_of_length_le (by omega)]), HB.out⟩
end Go.Proofs.YtkcpeanimmjajaaDoor.Ring
