import Derived.Test.YtkcpeanimmjajaaDoorLawChecks
import Derived.Deep.Slices
import Derived.Deep.Fields
import Derived.ChangeSame
import Derived.ProofKit
import Derived.OpenShut
import Derived.SizedLaws
import Derived.Lib.LaidTab
import Derived.LaidMore
namespace Go.Proofs.YtkcpeanimmjajaaDoor.Ring
open Go.RowKit Go.Proofs.YtkcpeanimmjajaaDoorW.PrintWords Go.Proofs.YtkcpeanimmjajaaDoorW.PrintLast Go.Proofs.YtkcpeanimmjajaaDoorW.PrintMore Go.Proofs.YtkcpeanimmjajaaDoor.PRingWalks
open Go.ChangeShapes Go.WideShapes Go.Deep
set_option linter.unusedVariables false

/-- A list of what is there, index by index. -/
theorem choose_list {α : Type} {P : Nat → α → Prop} : ∀ n, (∀ i, i < n → ∃ x, P i x) → ∃ l : List α, l.length = n ∧ ∀ i x, l[i]? = some x → P i x
  | 0, _ => ⟨[], rfl, fun i x h => by simp at h⟩
  | n + 1, h => by
    obtain ⟨l, hl, hp⟩ := choose_list n (fun i hi => h i (by omega))
    obtain ⟨x, hx⟩ := h n (by omega)
    refine ⟨l ++ [x], by rw [List.length_append, hl]; rfl, fun i y hy => ?_⟩
    rcases Nat.lt_or_ge i l.length with h1 | h1
    · rw [List.getElem?_append_left h1] at hy
      exact hp i y hy
    · rw [List.getElem?_append_right h1] at hy
      have h2 : i - l.length = 0 := by
        rcases Nat.eq_zero_or_pos (i - l.length) with h3 | h3
        · exact h3
        · rw [List.getElem?_eq_none (by simp; omega)] at hy
          cases hy
      rw [h2] at hy
      obtain rfl : x = y := Option.some.inj hy
      rwa [show i = n by omega]
theorem weights_all {H : Type} {P : Program} {e : TypeId} {d : DataW H} : ∀ {l : List (DataW H)}, d ∈ l → ∀ n ∈ d.weights P e, n ∈ DataW.weightsAll P e l
  | x :: r, h, n, hn => by
    simp only [DataW.weightsAll, List.mem_append]
    rcases List.mem_cons.1 h with rfl | h
    · exact Or.inl hn
    · exact Or.inr (weights_all h n hn)
section
variable {H : Type} {enc : TypeId × Value → H} {P : Program} {w : World} {base : Nat} {spare : Nat → Bool} {held : Bool}
theorem hone_at {fs : Array Field} (h : oneCellFields P fs = true) (j : Nat) (f : Field) (hj : fs[j]? = some f) : f.offset = j ∧ P.cellsOf f.type = 1 := hone_of h j f hj
/-- A struct of one-cell fields, opened at every field. -/
theorem open_fields {t : TypeId} {fs : Array Field} {fuel : Nat} {cs : List Value} {x : DataW H × List MemPlace} (hs : P.underlying t = some (.struct fs)) (hone : oneCellFields P fs = true) (hC : P.cellsOf t = fs.size)
    (h : DataW.trod enc P w base spare held fuel t cs = some x) :
    ∃ (xs : List (DataW H × List MemPlace)) (n : Nat), x = (.agg (xs.map (·.1)), xs.flatMap (·.2)) ∧ cs.length = fs.size ∧ xs.length = fs.size ∧
      ∀ (j : Nat) (f : Field), fs[j]? = some f → ∃ (v : Value) (y : DataW H × List MemPlace), cs[j]? = some v ∧ xs[j]? = some y ∧ DataW.trod enc P w base spare held n f.type [v] = some y := by
  obtain ⟨xs, n, _, hx, hlen, hxl, hg⟩ := DataW.trod_struct hs h
  rw [hC] at hlen
  refine ⟨xs, n, hx, hlen, hxl, fun j f hj => ?_⟩
  obtain ⟨ho, hk⟩ := hone_of hone j f hj
  have hjl : j < fs.size := (Array.getElem?_eq_some_iff.1 hj).1
  have h1 := hg j f hj
  rw [ho, hk] at h1
  have hd : (cs.drop j).take 1 = [cs[j]'(by omega)] := by
    rw [List.drop_eq_getElem_cons (by omega)]
    rfl
  rw [hd] at h1
  have hv : cs[j]? = some (cs[j]'(by omega)) := List.getElem?_eq_getElem (by omega)
  have hys : xs[j]? = some (xs[j]'(by omega)) := List.getElem?_eq_getElem (by omega)
  exact ⟨_, _, hv, hys, h1.trans hys⟩
theorem open_slice_fields {t e : TypeId} {fs : Array Field} {fuel : Nat} {cs : List Value} {x : DataW H × List MemPlace} (ht : P.underlying t = some (.slice e)) (he : P.underlying e = some (.struct fs))
    (hone : oneCellFields P fs = true) (hC : P.cellsOf e = fs.size) (h : DataW.trod enc P w base spare held fuel t cs = some x) :
    (cs = [.slice none 0 0] ∧ x = (.nil, [])) ∨
    ∃ (a : Addr) (len cap m : Nat) (D : Nat → DataW H) (pl : List MemPlace), cs = [.slice (some a) len cap] ∧ len ≤ cap ∧ cap ≤ maxLen ∧ len ≤ m ∧
      x = (.slice ((List.range len).map D) ((List.range (m - len)).map fun j => D (len + j)), pl) ∧
      ∀ i, i < m → ∃ (ys : List (DataW H × List MemPlace)) (n : Nat), D i = .agg (ys.map (·.1)) ∧ ys.length = fs.size ∧
        ∀ (j : Nat) (f : Field), fs[j]? = some f → ∃ (v : Value) (y : DataW H × List MemPlace), w.cell? (a.add (i * fs.size + j)) = some v ∧ ys[j]? = some y ∧ DataW.trod enc P w base spare held n f.type [v] = some y := by
  rcases open_slice ht h with h0 | ⟨a, len, cap, m, n, D, Pl, hcs, hb, hl, hm, hmm, hx, hi⟩
  · exact .inl h0
  · refine .inr ⟨a, len, cap, m, D, _, hcs, hl, hm, by rw [hmm]; split <;> omega, hx, fun i him => ?_⟩
    obtain ⟨cs', hc, ht'⟩ := hi i him
    rw [hC] at hc
    obtain ⟨ys, n', hy, hlen, hyl, hf⟩ := open_fields he hone hC ht'
    simp only [Prod.mk.injEq] at hy
    obtain ⟨_, hcl, hat⟩ := World.cells?_some hc
    refine ⟨ys, n', hy.1, hyl, fun j f hj => ?_⟩
    obtain ⟨v, y, h1, h2, h3⟩ := hf j f hj
    have hjl : j < fs.size := (Array.getElem?_eq_some_iff.1 hj).1
    refine ⟨v, y, ?_, h2, h3⟩
    rw [← Go.Deep.add_add, hat j hjl, h1]
end

section
variable {H : Type} {enc : TypeId × Value → H} {W : World} {base : Nat} {spare : Nat → Bool} {held : Bool}
/-- A slice of ints, in one cell: what it reads as. -/
theorem open_row {fuel : Nat} {v : Value} {y : DataW H × List MemPlace} (h : DataW.trod enc Tryd.prog W base spare held fuel 36 [v] = some y) (hw : (y.1.weights Tryd.prog 36).all (· ≤ reachBytes) = true) :
    ∃ (A : Option Addr) (c : Nat) (l : List Int), v = .slice A l.length c ∧ l.length ≤ c ∧ (Kd.int .i64).C W A l.length l ∧ l.length * 8 ≤ 140737488351232 := by
  rcases open_ints Tryd.underlying36 Tryd.underlying3 (by kernel_rfl) h with ⟨hcs, _⟩ | ⟨x, l, c, zs, hcs, _, hl, hm, hz, hx, hcell, _⟩
  · injection hcs with hcs _
    subst hcs
    exact ⟨none, 0, [], rfl, Nat.le_refl _, Kd.C_nil _ _, by simp⟩
  · injection hcs with hcs _
    subst hcs
    have hl2 : l ≤ zs.length := by
      rw [hz]
      split
      · exact hl
      · exact Nat.le_refl _
    have htl : (zs.take l).length = l := by rw [List.length_take]; omega
    have hb : Tryd.prog.bytesOf 3 = 8 := by kernel_rfl
    have hz' := sized_slice (P := Tryd.prog) (ts := [36]) (ds := [y.1]) (j := 0) (t := 36) (e := 3) (by simpa [DataW.weightsEach] using hw) rfl (by rw [hx]; rfl) Tryd.underlying36
    rw [hb] at hz'
    have hr : reachBytes = 140737488351232 := rfl
    have h8 : l * 8 ≤ 140737488351232 := by
      rw [← hr]
      refine Nat.le_trans (Nat.mul_le_mul_right _ ?_) hz'
      simp [lits]
      omega
    refine ⟨some x, c, zs.take l, by rw [htl], by rw [htl]; exact hl, ⟨rfl, by rw [htl]; omega, fun h0 => ⟨x, rfl, fun j p hj => ⟨[.int .i64 p], rfl, rfl, fun i u hu => ?_⟩⟩⟩, by rw [htl]; exact h8⟩
    rcases i with _ | i
    · obtain rfl : Value.int .i64 p = u := by simpa using hu
      have hj' : zs[j]? = some p := by
        rw [List.getElem?_take] at hj
        split at hj
        · exact hj
        · cases hj
      have hjl := (List.getElem?_eq_some_iff.1 hj').1
      have h1 := hcell j hjl
      rw [List.getD_eq_getElem?_getD, hj'] at h1
      have h1' : W.cell? (x.add j) = some (.int .i64 p) := by simpa using h1
      show W.cell? (x.add (j * 1 + 0)) = _
      rw [Nat.mul_one, Nat.add_zero]
      exact h1'
    · simp at hu
/-- The nodes of a definition that came in. -/
theorem open_nodes {fuel : Nat} {v : Value} {y : DataW H × List MemPlace} (h : DataW.trod enc Tryd.prog W base spare held fuel 22 [v] = some y) (hw : (y.1.weights Tryd.prog 22).all (· ≤ reachBytes) = true) :
    ∃ (A : Option Addr) (c : Nat) (l : List ND), v = .slice A l.length c ∧ l.length ≤ c ∧ Kd.C kN W A l.length l ∧ l.length * 32 ≤ 140737488351232 ∧ ∀ nd ∈ l, nd.f1.length * 8 ≤ 140737488351232 := by
  rcases open_slice_fields Tryd.underlying22 Tryd.underlying56 (by kernel_rfl) (by kernel_rfl) h with ⟨hcs, _⟩ | ⟨a, len, cap, m, D, pl, hcs, hl, hm, hlm, hx, hel⟩
  · injection hcs with hcs _
    subst hcs
    exact ⟨none, 0, [], rfl, Nat.le_refl _, Kd.C_nil _ _, by simp, fun nd hn => by simp at hn⟩
  · injection hcs with hcs _
    subst hcs
    have hr : reachBytes = 140737488351232 := rfl
    have hy1 : y.1 = .slice ((List.range len).map D) ((List.range (m - len)).map fun j => D (len + j)) := by rw [hx]
    have hb : Tryd.prog.bytesOf 56 = 32 := by kernel_rfl
    have hz' := sized_slice (P := Tryd.prog) (ts := [22]) (ds := [y.1]) (j := 0) (t := 22) (e := 56) (by simpa [DataW.weightsEach] using hw) rfl (by rw [hy1]; rfl) Tryd.underlying22
    rw [hb, hr, List.length_map, List.length_range] at hz'
    have h32 : len * 32 ≤ 140737488351232 := Nat.le_trans (Nat.mul_le_mul_right _ (Nat.le_add_right _ _)) hz'
    have hwd : ∀ i, i < len → ((D i).weights Tryd.prog 56).all (· ≤ reachBytes) = true := fun i hi => List.all_eq_true.2 fun n hn => by
      refine List.all_eq_true.1 hw n ?_
      rw [hy1]
      simp only [DataW.weights, Tryd.underlying22]
      refine List.mem_cons_of_mem _ (List.mem_append_left _ (weights_all (List.mem_map.2 ⟨i, List.mem_range.2 hi, rfl⟩) n hn))
    have hone : ∀ i, i < len → ∃ nd : ND, (∃ cs, cs.length = 2 ∧ kN.K W nd cs ∧ ∀ j u, cs[j]? = some u → W.cell? (a.add (i * 2 + j)) = some u) ∧ nd.f1.length * 8 ≤ 140737488351232 := by
      intro i hi
      obtain ⟨ys, n, hD, hyl, hf⟩ := hel i (by omega)
      have hw2 := hwd i hi
      rw [hD] at hw2
      obtain ⟨v0, y0, hc0, hy0, ht0⟩ := hf 0 _ rfl
      obtain ⟨v1, y1, hc1, hy1', ht1⟩ := hf 1 _ rfl
      obtain ⟨z, hz, -⟩ := DataW.trod_int Tryd.underlying3 ht0
      injection hz with hz _
      subst hz
      obtain ⟨A1, c1, l1, rfl, hc1', hC1, h8⟩ := open_row ht1 (List.all_eq_true.2 fun k hk => by
        refine List.all_eq_true.1 hw2 k ?_
        simp only [DataW.weights, Tryd.underlying56]
        exact DataW.weights_mem_each (j := 1) rfl (by rw [List.getElem?_map, hy1']; rfl) k hk)
      refine ⟨⟨z, l1⟩, ⟨[.int .i64 z, .slice A1 l1.length c1], rfl, k56_mk W ⟨z, l1⟩ hc1' hC1, fun j u hu => ?_⟩, h8⟩
      match j, hu with
      | 0, hu => obtain rfl := Option.some.inj hu; exact hc0
      | 1, hu => obtain rfl := Option.some.inj hu; exact hc1
    obtain ⟨l, hll, hp⟩ := choose_list len hone
    subst hll
    refine ⟨some a, cap, l, rfl, hl, ⟨rfl, by unfold maxLen at hm; omega, fun h0 => ⟨a, rfl, fun j p hj => ?_⟩⟩, h32, fun nd hn => ?_⟩
    · obtain ⟨⟨cs, h1, h2, h3⟩, -⟩ := hp j p hj
      exact ⟨cs, h1, h2, h3⟩
    · obtain ⟨j, hj, rfl⟩ := List.mem_iff_getElem.1 hn
      exact (hp j _ (List.getElem?_eq_getElem hj)).2

set_option maxRecDepth 100000 in
theorem cells_of (c : Clu) (A : Option Addr) (cap : Nat) (cs : List Value) (hl : cs.length = 23) (h0 : cs[0]? = some (.string c.store)) (h1 : cs[1]? = some (.int .i64 c.f1)) (h2 : cs[2]? = some (.int .i64 c.f2)) (h3 : cs[3]? = some (.int .i64 c.f3)) (h4 : cs[4]? = some (.int .i64 c.f4)) (h5 : cs[5]? = some (.int .i64 c.f5)) (h6 : cs[6]? = some (.int .i64 c.f6)) (h7 : cs[7]? = some (.int .i64 c.f7)) (h8 : cs[8]? = some (.int .i64 c.f8)) (h9 : cs[9]? = some (.int .i64 c.f9)) (h10 : cs[10]? = some (.int .i64 c.f10)) (h11 : cs[11]? = some (.int .i64 c.f11)) (h12 : cs[12]? = some (.int .i64 c.f12)) (h13 : cs[13]? = some (.int .i64 c.f13)) (h14 : cs[14]? = some (.int .i64 c.f14)) (h15 : cs[15]? = some (.int .i64 c.f15)) (h16 : cs[16]? = some (.int .i64 c.f16)) (h17 : cs[17]? = some (.int .i64 c.f17)) (h18 : cs[18]? = some (.int .i64 c.f18)) (h19 : cs[19]? = some (.int .i64 c.f19)) (h20 : cs[20]? = some (.int .i64 c.f20)) (h21 : cs[21]? = some (.int .i64 c.f21)) (h22 : cs[22]? = some (.slice A c.nodes.length cap)) : cs = (c.cells A cap).toList := by
  refine List.ext_getElem? fun i => ?_
  match i with
  | 0 => exact h0
  | 1 => exact h1
  | 2 => exact h2
  | 3 => exact h3
  | 4 => exact h4
  | 5 => exact h5
  | 6 => exact h6
  | 7 => exact h7
  | 8 => exact h8
  | 9 => exact h9
  | 10 => exact h10
  | 11 => exact h11
  | 12 => exact h12
  | 13 => exact h13
  | 14 => exact h14
  | 15 => exact h15
  | 16 => exact h16
  | 17 => exact h17
  | 18 => exact h18
  | 19 => exact h19
  | 20 => exact h20
  | 21 => exact h21
  | 22 => exact h22
  | n + 23 => rw [List.getElem?_eq_none (by omega), List.getElem?_eq_none (by show 23 ≤ _; omega)]
set_option maxRecDepth 100000 in
/-- A DEFINITION THAT CAME IN. -/
theorem open_clu {r : Reach} {b0 : Nat} {v : Value} {d : DataW H} {p : List MemPlace} (hv : Value.okWide Tryd.prog W r b0 24 v) (h : DataW.Trod enc Tryd.prog W base spare held 24 v d p) (hw : (d.weights Tryd.prog 24).all (· ≤ reachBytes) = true) :
    ∃ (c : Clu) (A : Option Addr) (cap : Nat), v = .agg (c.cells A cap) ∧ Kd.C kN W A c.nodes.length c.nodes ∧ c.fit := by
  obtain ⟨cs, rfl, hsz⟩ := okWide_struct Tryd.underlying24 hv
  obtain ⟨fuel, hf⟩ := h
  obtain ⟨xs, n, hx, hlen, hxl, hg⟩ := open_fields Tryd.underlying24 (by kernel_rfl) (by kernel_rfl) hf
  simp only [Prod.mk.injEq] at hx
  have hd := hx.1
  have hwe : (DataW.weightsEach Tryd.prog ([9, 3, 3, 3, 3, 3, 3, 3, 3, 3, 3, 3, 3, 3, 3, 3, 3, 3, 3, 3, 3, 3, 22]) (xs.map (·.1))).all (· ≤ reachBytes) = true := by
    rw [hd] at hw
    simp only [DataW.weights, Tryd.underlying24] at hw
    exact hw
  obtain ⟨v0, y0, hc0, hy0, ht0⟩ := hg 0 _ rfl
  obtain ⟨s, hs, hsd, -⟩ := DataW.trod_string Tryd.underlying9 ht0
  injection hs with hs _
  subst hs
  have hss := sized_string hwe (j := 0) (t := 9) (bytes := s.data.toList) rfl (by rw [List.getElem?_map, hy0, hsd]; rfl)
  obtain ⟨v1, y1, hc1, -, ht1⟩ := hg 1 _ rfl
  obtain ⟨z1, hz1, -⟩ := DataW.trod_int Tryd.underlying3 ht1
  injection hz1 with hz1 _
  subst hz1
  obtain ⟨v2, y2, hc2, -, ht2⟩ := hg 2 _ rfl
  obtain ⟨z2, hz2, -⟩ := DataW.trod_int Tryd.underlying3 ht2
  injection hz2 with hz2 _
  subst hz2
  obtain ⟨v3, y3, hc3, -, ht3⟩ := hg 3 _ rfl
  obtain ⟨z3, hz3, -⟩ := DataW.trod_int Tryd.underlying3 ht3
  injection hz3 with hz3 _
  subst hz3
  obtain ⟨v4, y4, hc4, -, ht4⟩ := hg 4 _ rfl
  obtain ⟨z4, hz4, -⟩ := DataW.trod_int Tryd.underlying3 ht4
  injection hz4 with hz4 _
  subst hz4
  obtain ⟨v5, y5, hc5, -, ht5⟩ := hg 5 _ rfl
  obtain ⟨z5, hz5, -⟩ := DataW.trod_int Tryd.underlying3 ht5
  injection hz5 with hz5 _
  subst hz5
  obtain ⟨v6, y6, hc6, -, ht6⟩ := hg 6 _ rfl
  obtain ⟨z6, hz6, -⟩ := DataW.trod_int Tryd.underlying3 ht6
  injection hz6 with hz6 _
  subst hz6
  obtain ⟨v7, y7, hc7, -, ht7⟩ := hg 7 _ rfl
  obtain ⟨z7, hz7, -⟩ := DataW.trod_int Tryd.underlying3 ht7
  injection hz7 with hz7 _
  subst hz7
  obtain ⟨v8, y8, hc8, -, ht8⟩ := hg 8 _ rfl
  obtain ⟨z8, hz8, -⟩ := DataW.trod_int Tryd.underlying3 ht8
  injection hz8 with hz8 _
  subst hz8
  obtain ⟨v9, y9, hc9, -, ht9⟩ := hg 9 _ rfl
  obtain ⟨z9, hz9, -⟩ := DataW.trod_int Tryd.underlying3 ht9
  injection hz9 with hz9 _
  subst hz9
  obtain ⟨v10, y10, hc10, -, ht10⟩ := hg 10 _ rfl
  obtain ⟨z10, hz10, -⟩ := DataW.trod_int Tryd.underlying3 ht10
  injection hz10 with hz10 _
  subst hz10
  obtain ⟨v11, y11, hc11, -, ht11⟩ := hg 11 _ rfl
  obtain ⟨z11, hz11, -⟩ := DataW.trod_int Tryd.underlying3 ht11
  injection hz11 with hz11 _
  subst hz11
  obtain ⟨v12, y12, hc12, -, ht12⟩ := hg 12 _ rfl
  obtain ⟨z12, hz12, -⟩ := DataW.trod_int Tryd.underlying3 ht12
  injection hz12 with hz12 _
  subst hz12
  obtain ⟨v13, y13, hc13, -, ht13⟩ := hg 13 _ rfl
  obtain ⟨z13, hz13, -⟩ := DataW.trod_int Tryd.underlying3 ht13
  injection hz13 with hz13 _
  subst hz13
  obtain ⟨v14, y14, hc14, -, ht14⟩ := hg 14 _ rfl
  obtain ⟨z14, hz14, -⟩ := DataW.trod_int Tryd.underlying3 ht14
  injection hz14 with hz14 _
  subst hz14
  obtain ⟨v15, y15, hc15, -, ht15⟩ := hg 15 _ rfl
  obtain ⟨z15, hz15, -⟩ := DataW.trod_int Tryd.underlying3 ht15
  injection hz15 with hz15 _
  subst hz15
  obtain ⟨v16, y16, hc16, -, ht16⟩ := hg 16 _ rfl
  obtain ⟨z16, hz16, -⟩ := DataW.trod_int Tryd.underlying3 ht16
  injection hz16 with hz16 _
  subst hz16
  obtain ⟨v17, y17, hc17, -, ht17⟩ := hg 17 _ rfl
  obtain ⟨z17, hz17, -⟩ := DataW.trod_int Tryd.underlying3 ht17
  injection hz17 with hz17 _
  subst hz17
  obtain ⟨v18, y18, hc18, -, ht18⟩ := hg 18 _ rfl
  obtain ⟨z18, hz18, -⟩ := DataW.trod_int Tryd.underlying3 ht18
  injection hz18 with hz18 _
  subst hz18
  obtain ⟨v19, y19, hc19, -, ht19⟩ := hg 19 _ rfl
  obtain ⟨z19, hz19, -⟩ := DataW.trod_int Tryd.underlying3 ht19
  injection hz19 with hz19 _
  subst hz19
  obtain ⟨v20, y20, hc20, -, ht20⟩ := hg 20 _ rfl
  obtain ⟨z20, hz20, -⟩ := DataW.trod_int Tryd.underlying3 ht20
  injection hz20 with hz20 _
  subst hz20
  obtain ⟨v21, y21, hc21, -, ht21⟩ := hg 21 _ rfl
  obtain ⟨z21, hz21, -⟩ := DataW.trod_int Tryd.underlying3 ht21
  injection hz21 with hz21 _
  subst hz21
  obtain ⟨v22, y22, hc22, hy22, ht22⟩ := hg 22 _ rfl
  obtain ⟨A, cap, l, rfl, hcap, hC, h32, h8⟩ := open_nodes ht22 (List.all_eq_true.2 fun k hk => List.all_eq_true.1 hwe k (DataW.weights_mem_each (j := 22) rfl (by rw [List.getElem?_map, hy22]; rfl) k hk))
  refine ⟨⟨s, z1, z2, z3, z4, z5, z6, z7, z8, z9, z10, z11, z12, z13, z14, z15, z16, z17, z18, z19, z20, z21, l⟩, A, cap, ?_, hC, ⟨?_, h32, h8⟩⟩
  · have hcs := cells_of ⟨s, z1, z2, z3, z4, z5, z6, z7, z8, z9, z10, z11, z12, z13, z14, z15, z16, z17, z18, z19, z20, z21, l⟩ A cap cs.toList hlen hc0 hc1 hc2 hc3 hc4 hc5 hc6 hc7 hc8 hc9 hc10 hc11 hc12 hc13 hc14 hc15 hc16 hc17 hc18 hc19 hc20 hc21 hc22
    show Value.agg cs = Value.agg _
    rw [← Array.toList_inj.1 hcs]
  · show s.size ≤ _
    rw [Array.length_toList] at hss
    exact hss
end
/-- The document's table, laid. -/
theorem great_of {laid : List (String × DataW Unit)} {W : World} (h : laidMet Tryd.prog (("granary/granaryref6.greatest", Lib.tabData .i64 setMost) :: laid) W) : Great W := by
  have ht := Lib.tabIs_of_head (P := Tryd.prog) (g := 1) (t := 88) (e := 3) (n := 21) (k := .i64) (by kernel_rfl) (by kernel_rfl) Tryd.underlying88 Tryd.underlying3 (by kernel_rfl) (by kernel_rfl) h
  intro i v hv
  have hi := (List.getElem?_eq_some_iff.1 hv).1
  rw [ht.cell (by kernel_rfl) i hi, List.getD_eq_getElem?_getD, hv]
  rfl
end Go.Proofs.YtkcpeanimmjajaaDoor.Ring

