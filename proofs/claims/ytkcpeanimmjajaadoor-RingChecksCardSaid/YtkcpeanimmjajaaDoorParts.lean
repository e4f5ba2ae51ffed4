import Derived.Test.YtkcpeanimmjajaaDoorMem
namespace Go.Proofs.YtkcpeanimmjajaaDoor.Ring
open Go.RowKit Go.Proofs.YtkcpeanimmjajaaDoorW.PrintWords Go.Proofs.YtkcpeanimmjajaaDoorW.PrintLast Go.Proofs.YtkcpeanimmjajaaDoorW.PrintMore Go.Proofs.YtkcpeanimmjajaaDoor.PRingWalks
set_option linter.unusedVariables false

/-- The sizes that a definition may have in memory. -/
def Clu.ok (c : Clu) : Prop := c.store.size ≤ 140737488351232 ∧ c.nodes.length ≤ 4398046511104 ∧ ∀ nd ∈ c.nodes, nd.f1.length ≤ 17592186044416

/-- Element k of a row of nodes. -/
theorem node_at {w : World} {A : Option Addr} {n : Nat} {l : List ND} (h : Kd.C kN w A n l) (k : Nat) (hk : k < n) : ∃ ad A1 c1 nd, A = some ad ∧ l[k]? = some nd ∧ w.cell? (ad.add (k * 2)) = some (.int .i64 nd.f0) ∧ w.cell? ⟨(ad.add (k * 2)).block, (ad.add (k * 2)).off + 1, none⟩ = some (.slice A1 nd.f1.length c1) ∧ nd.f1.length ≤ c1 ∧ (Kd.int .i64).C w A1 nd.f1.length nd.f1 := by
  have hl : l.length = n := h.1
  obtain ⟨ad, A1, c1, e, h0, h1, h2, h3⟩ := at_T56 h (k : Int) (by omega) (by omega)
  have hg : l[k]? = some (rd_T56 l (k : Int)) := by
    unfold rd_T56
    rw [Int.toNat_natCast, List.getD_eq_getElem?_getD, List.getElem?_eq_getElem (by omega)]
    rfl
  rw [Int.toNat_natCast] at h0 h1
  exact ⟨ad, A1, c1, _, e, hg, h0, h1, h2, h3⟩

/-- How many partitions the first nodes have. -/
def partsN (l : List ND) : Nat := (l.map fun nd => nd.f1.length).sum
theorem partsN_snoc (l : List ND) (k : Nat) (nd : ND) (h : l[k]? = some nd) : partsN (l.take (k + 1)) = partsN (l.take k) + nd.f1.length := by
  obtain ⟨hk, rfl⟩ := List.getElem?_eq_some_iff.1 h
  unfold partsN
  rw [List.take_succ_eq_append_getElem hk]
  simp only [List.map_append, List.sum_append, List.map_cons, List.map_nil, List.sum_cons, List.sum_nil, Nat.add_zero]
theorem partsN_le (l : List ND) (hl : ∀ nd ∈ l, nd.f1.length ≤ 17592186044416) : partsN l ≤ l.length * 17592186044416 := by
  unfold partsN
  induction l with
  | nil => simp
  | cons x r ih =>
    have h1 := ih (fun nd h => hl nd (List.mem_cons_of_mem _ h))
    have h2 := hl x List.mem_cons_self
    simp only [List.map_cons, List.sum_cons, List.length_cons]
    omega
theorem partsN_take (c : Clu) (hc : c.ok) (hn : c.nodes.length ≤ 1024) (k : Nat) : partsN (c.nodes.take k) ≤ 18014398509481984 := by
  have := partsN_le (c.nodes.take k) (fun nd h => hc.2.2 nd (List.mem_of_mem_take h))
  have h2 : (c.nodes.take k).length ≤ c.nodes.length := List.length_take_le' _ _
  omega

theorem ret_bool {a b : Bool} (h : a = b) : Ending.returned (.bool a) = .returned (.bool b) := by rw [h]
theorem ret_i64 {a b : Int} (h : a = b) : Ending.returned (.int .i64 a) = .returned (.int .i64 b) := by rw [h]

set_option maxHeartbeats 2000000 in
set_option maxRecDepth 100000 in
theorem parts_calls (c : Clu) (A : Option Addr) (cap : Nat) (w : World) (HR : Kd.C kN w A c.nodes.length c.nodes) (hok : c.ok) (hn : c.nodes.length ≤ 1024) :
    Calls Tryd.prog 39 #[.agg (c.cells A cap)] w fun e w' => e = .returned (.int .i64 (partsN c.nodes)) ∧ Below w.heap.size w w' := by
  have HR' := Aside0.mk HR
  clear HR
  go_enter Tryd.func39, Tryd.ntmps39
  go_wp2_with (first | ((with_reducible refine gate_dst (N := 1) rfl ?_); refine new_event ?hg (N := 1) ?hd (c.cells A cap) 24 ?hr ?_; (case hd => rfl); (case hg => rfl); (case hr => first | (go_simp; done) | (go_simp; rfl)); intro gb w1 GE HX HB))
  have hc22 : w1.cell? ⟨gb, 22, none⟩ = some (.slice A c.nodes.length cap) := (blk_cell HX.out 22).trans rfl
  go_loop [3, 4] (fun v i => ∃ k : Nat, k ≤ c.nodes.length ∧ i = .int .i64 k ∧ v = .int .i64 (partsN (c.nodes.take k))) (fun _ i => c.nodes.length - (intOf i).toNat)
  case atStart => exact ⟨0, Nat.zero_le _, rfl, rfl⟩
  case round =>
    obtain ⟨k, hk, rfl, rfl⟩ := hrel
    have hb := partsN_take c hok hn k
    by_cases hlt : k < c.nodes.length
    · obtain ⟨ad, A1, c1, nd, rfl, hnd, hz0, hz1, hl1, hC1⟩ := node_at (Kd.C_below HR'.out HB.out) k hlt
      have hb1 := partsN_take c hok hn (k + 1)
      have HS := Aside0.mk (partsN_snoc c.nodes k nd hnd)
      rw [HS.out] at hb1
      clear hnd
      go_wp2
      go_round
      case rel => exact ⟨k + 1, by omega, by go_num, by rw [HS.out]; go_num⟩
      case measure => simp [intOf]; omega
    · go_wp2
      go_ret
      exact ⟨ret_i64 (by rw [List.take_of_length_le (by omega)]), HB.out⟩
end Go.Proofs.YtkcpeanimmjajaaDoor.Ring
