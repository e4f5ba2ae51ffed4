import Derived.Test.YtkcpeanimmjajaaDoorRound
import Derived.Test.YtkcpeanimmjajaaDoorChkd
namespace Go.Proofs.YtkcpeanimmjajaaDoor.Ring
open Go.RowKit Go.Proofs.YtkcpeanimmjajaaDoorW.PrintWords Go.Proofs.YtkcpeanimmjajaaDoorW.PrintLast Go.Proofs.YtkcpeanimmjajaaDoorW.PrintMore Go.Proofs.YtkcpeanimmjajaaDoor.PRingWalks
set_option linter.unusedVariables false
set_option linter.unusedSimpArgs false

theorem pick_list {α : Type} {P : Nat → α → Prop} : ∀ n, (∀ i, i < n → ∃ x, P i x) → ∃ l : List α, l.length = n ∧ ∀ i, i < n → ∃ x, l[i]? = some x ∧ P i x
  | 0, _ => ⟨[], rfl, fun i h => by omega⟩
  | n + 1, h => by
    obtain ⟨l, hl, hp⟩ := pick_list n (fun i hi => h i (by omega))
    obtain ⟨x, hx⟩ := h n (by omega)
    refine ⟨l ++ [x], by rw [List.length_append, hl]; rfl, fun i hi => ?_⟩
    rcases Nat.lt_succ_iff_lt_or_eq.1 hi with h1 | h1
    · obtain ⟨y, h2, h3⟩ := hp i h1
      exact ⟨y, by rw [List.getElem?_append_left (by omega)]; exact h2, h3⟩
    · subst h1
      exact ⟨x, by rw [List.getElem?_append_right (by omega), hl, Nat.sub_self]; rfl, hx⟩
theorem homes_some {l : List ND} (h : Dealt l) : ∃ H, HomesOf l H := by
  obtain ⟨H, h1, h2⟩ := pick_list (P := fun p (x : Int) => ∃ i : Nat, x = (i : Int) ∧ i < l.length ∧ HomeAt l p i) (partsN l) (fun p hp => by
    have h1 := h.2.2.1 p hp
    rw [timesN_flat] at h1
    have h2 := cnt_pos.1 (show 0 < cnt (p : Int) (flat l) by omega)
    unfold flat at h2
    obtain ⟨nd, hm, hx⟩ := List.mem_flatMap.1 h2
    obtain ⟨i, hi, rfl⟩ := List.mem_iff_getElem.1 hm
    exact ⟨(i : Int), i, rfl, hi, _, List.getElem?_eq_getElem hi, hx⟩)
  exact ⟨H, h1, fun p hp => by
    obtain ⟨x, h3, i, rfl, h4, h5⟩ := h2 p hp
    exact ⟨i, h3, h4, h5⟩⟩
theorem homes_one {l : List ND} (hd0 : Dealt l) {H H' : List Int} (h : HomesOf l H) (h' : HomesOf l H') : H = H' := by
  refine List.ext_getElem? fun p => ?_
  rcases Nat.lt_or_ge p (partsN l) with hp | hp
  · obtain ⟨i, h1, _, h3⟩ := h.2 p hp
    obtain ⟨j, h4, _, h6⟩ := h'.2 p hp
    rw [h1, h4, home_unique hd0 hp h3 h6]
  · rw [List.getElem?_eq_none (by have := h.1; omega), List.getElem?_eq_none (by have := h'.1; omega)]
open Classical in
noncomputable def HH (l : List ND) : List Int := if h : ∃ H, HomesOf l H then h.choose else []
theorem HH_of {l : List ND} (hd0 : Dealt l) {H : List Int} (h : HomesOf l H) : HH l = H := by
  have he : ∃ H, HomesOf l H := ⟨H, h⟩
  have h1 : HH l = he.choose := by unfold HH; rw [dif_pos he]
  rw [h1]
  exact homes_one hd0 he.choose_spec h
theorem HH_homes {l : List ND} (hd0 : Dealt l) : HomesOf l (HH l) := by
  obtain ⟨H, h⟩ := homes_some hd0
  rw [HH_of hd0 h]
  exact h
theorem check_ok {c : Clu} (h : checkN c = 0) : Dealt c.nodes ∧ 1 ≤ c.f1 ∧ c.f1 ≤ 16 ∧ c.nodes.length ≤ 16 := by
  unfold checkN at h
  by_cases h0 : nameB c.store = false
  · rw [if_pos h0] at h; exact absurd h (by decide)
  by_cases h1 : SetOK c
  · rw [if_neg h0, if_neg (by simpa using h1)] at h
    by_cases h2 : c.f8 < c.f5 ∨ c.f11 < c.f10
    · rw [if_pos h2] at h; exact absurd h (by decide)
    rw [if_neg h2] at h
    by_cases h3 : 1 ≤ c.nodes.length ∧ c.nodes.length ≤ 16
    · rw [if_neg (by simpa using h3)] at h
      by_cases h4 : ZonesOK c.nodes
      · rw [if_neg (by simpa using h4)] at h
        by_cases h5 : Dealt c.nodes
        · exact ⟨h5, h1.f1.1, h1.f1.2, h3.2⟩
        · rw [if_pos h5] at h; exact absurd h (by decide)
      · rw [if_pos h4] at h; exact absurd h (by decide)
    · rw [if_pos h3] at h; exact absurd h (by decide)
  · rw [if_neg h0, if_pos h1] at h; exact absurd h (by decide)

/-- A partition that is there. -/
def There (c : Clu) (part : Int) : Prop := 0 ≤ part ∧ part < (partsN c.nodes : Int)
open Classical in
noncomputable def walkE (c : Clu) (part : Int) : Int := if checkN c = 0 then (if There c part then 0 else 69) else checkN c
open Classical in
noncomputable def walkV (c : Clu) (part : Int) : List Int := if checkN c = 0 ∧ There c part then walkL (HH c.nodes) part.toNat c.f1.toNat else []
open Classical in
noncomputable def ownV (c : Clu) (part : Int) : List Int := if checkN c = 0 ∧ There c part then ownL (HH c.nodes) part.toNat c.f1.toNat else []
/-- A list of numbers and an error. -/
def PairPost (l : List Int) (n : Int) (w : World) (e : Ending) (w' : World) : Prop :=
  ∃ v, e = .returned (.tuple #[v, .int .i64 n]) ∧ (Kd.int .i64).R 3 w' w.heap.size (fun _ => True) v l ∧ Below w.heap.size w w'
theorem pair_no {l : List Int} {n m : Int} {w w' : World} (hl : l = []) (hn : n = m) (hb : Below w.heap.size w w') : PairPost l n w (.returned (.tuple #[.slice none 0 0, .int .i64 m])) w' := by
  subst hl; subst hn
  exact ⟨_, rfl, Kd.R_nil _ _ _ _ _, hb⟩
theorem C_cells {w : World} {g : Nat} {H : List Int} (h : w.heap[g]? = some (.cells (intCells H) 3 (0, 0))) (hm : H.length ≤ 64) : (Kd.int .i64).C w (some ⟨g, 0, none⟩) H.length H := by
  refine ⟨rfl, by omega, fun h0 => ⟨_, rfl, fun j p hj => ⟨[.int .i64 p], rfl, rfl, fun i u hu => ?_⟩⟩⟩
  rcases i with _ | i
  · obtain rfl : Value.int .i64 p = u := by simpa using hu
    show w.cell? ((⟨g, 0, none⟩ : Addr).add (j * 1 + 0)) = _
    rw [Nat.mul_one, Nat.add_zero, Addr.add_mid, Nat.zero_add, blk_cell h, intCells_get hj]
  · simp at hu

set_option maxHeartbeats 4000000 in
set_option maxRecDepth 100000 in
theorem walk_calls (c : Clu) (A : Option Addr) (cap : Nat) (part : Int) (w : World) (HR : Kd.C kN w A c.nodes.length c.nodes) (hok : c.ok) (hp63 : -9223372036854775808 ≤ part) (hp64 : part ≤ 9223372036854775807) :
    Calls Tryd.prog 15 #[.agg (c.cells A cap), .int .i64 part] w fun e w' => PairPost (walkV c part) (walkE c part) w e w' := by
  have HR' := Aside0.mk HR
  clear HR
  go_enter Tryd.func15, Tryd.ntmps15
  go_wp2_with (first | ((with_reducible refine gate_dst (N := 2) rfl ?_); refine new_event ?hg (N := 2) ?hd (c.cells A cap) 24 ?hr ?_; (case hd => rfl); (case hg => rfl); (case hr => first | (go_simp; done) | (go_simp; rfl)); intro gb w1 GE HX HB) | ((with_reducible refine gate_dst (N := 9) rfl ?_); refine wpList_load_row rfl 24 (.tmp 2) rfl gb rfl 24 (c.cells A cap) (0, 0) _ HX.out Tryd.underlying24 rfl (by kernel_rfl) ?_))
  go_at_call 35
  refine (checked_calls c A cap w1 (Kd.C_below HR'.out HB.out) hok).mono ?_
  rintro e w2 hpost
  rcases hpost with ⟨hne, rfl, hb⟩ | ⟨h0, g, H, rfl, hH, hg, hX, hb⟩
  · have HB2 := Aside0.mk (below_step HB.out hb)
    have t1 : (checkN c != 0) = true := bne_iff_ne.2 hne
    have HE := Aside0.mk (show walkE c part = checkN c by unfold walkE; rw [if_neg hne])
    have HV := Aside0.mk (show walkV c part = [] by unfold walkV; rw [if_neg (fun h => hne h.1)])
    clear hne hb
    go_wp2_with fail
    go_ret2
    exact pair_no HV.out HE.out HB2.out
  · obtain ⟨hd0, hf1, hf2, hn16⟩ := check_ok h0
    have HHH := Aside0.mk (HH_of hd0 hH)
    have hlen := hH.1
    have hP1 := hd0.1
    have hP2 := hd0.2.1
    rw [← hlen] at hP1 hP2
    have HB2 := Aside0.mk (below_step HB.out hb)
    have HCH := Aside0.mk (C_cells hX hP2)
    have HX2 := Aside0.mk (blk_below HX.out hb)
    have HDH := Aside0.mk (And.intro hd0 hH)
    have H0 := Aside0.mk h0
    have HLN := Aside0.mk hlen
    rw [← hlen]
    clear hb hX hd0 hH h0 hlen
    by_cases ht : 0 ≤ part ∧ part ≤ (H.length : Int) - 1
    · have HTh := Aside0.mk (show There c part from ⟨ht.1, by have := HLN.out; omega⟩)
      have HE := Aside0.mk (show walkE c part = 0 by unfold walkE; rw [if_pos H0.out, if_pos HTh.out])
      have HV := Aside0.mk (show walkV c part = walkL H part.toNat c.f1.toNat by unfold walkV; rw [if_pos ⟨H0.out, HTh.out⟩, HHH.out])
      have hdec : decide (0 ≤ part ∧ part ≤ (H.length : Int) - 1) = true := decide_eq_true ht
      have HDec := Aside0.mk hdec
      obtain ⟨ht1, ht2⟩ := ht
      clear hdec
      have hc1 : w2.cell? ⟨gb, 1, none⟩ = some (.int .i64 c.f1) := (blk_cell HX2.out 1).trans rfl
      go_wp2_with (first | (go_at_call 40; refine (within_calls _ _ _ _).mono ?_; rw [HDec.out]; rintro e w' ⟨rfl, rfl⟩) | fail)
      go_at_call 41
      refine (round_calls H _ _ _ _ _ HCH.out hP1 hP2 ht1 (by omega) (by omega) hf2).mono ?_
      rintro e w3 ⟨v, rfl, hR, hb3⟩
      have HRv := Aside0.mk (Kd.R_lower hR HB2.out.size)
      have HB3 := Aside0.mk (below_step HB2.out hb3)
      clear hR hb3 hc1
      go_wp2_with fail
      go_ret2
      exact ⟨v, by rw [HE.out]; rfl, by rw [HV.out]; exact HRv.out, HB3.out⟩
    · have HTh := Aside0.mk (show ¬ There c part from fun h => ht ⟨h.1, by have := HLN.out; have := h.2; omega⟩)
      have HE := Aside0.mk (show walkE c part = 69 by unfold walkE; rw [if_pos H0.out, if_neg HTh.out])
      have HV := Aside0.mk (show walkV c part = [] by unfold walkV; rw [if_neg (fun h => HTh.out h.2)])
      have HDec := Aside0.mk (decide_eq_false ht)
      clear ht
      go_wp2_with (first | (go_at_call 40; refine (within_calls _ _ _ _).mono ?_; rw [HDec.out]; rintro e w' ⟨rfl, rfl⟩) | fail)
      go_ret2
      exact pair_no HV.out HE.out HB2.out
set_option maxHeartbeats 4000000 in
set_option maxRecDepth 100000 in
theorem owners_calls (c : Clu) (A : Option Addr) (cap : Nat) (part : Int) (w : World) (HR : Kd.C kN w A c.nodes.length c.nodes) (hok : c.ok) (hp63 : -9223372036854775808 ≤ part) (hp64 : part ≤ 9223372036854775807) :
    Calls Tryd.prog 18 #[.agg (c.cells A cap), .int .i64 part] w fun e w' => PairPost (ownV c part) (walkE c part) w e w' := by
  have HR' := Aside0.mk HR
  clear HR
  go_enter Tryd.func18, Tryd.ntmps18
  go_wp2_with (first | ((with_reducible refine gate_dst (N := 2) rfl ?_); refine new_event ?hg (N := 2) ?hd (c.cells A cap) 24 ?hr ?_; (case hd => rfl); (case hg => rfl); (case hr => first | (go_simp; done) | (go_simp; rfl)); intro gb w1 GE HX HB) | ((with_reducible refine gate_dst (N := 12) rfl ?_); refine wpList_load_row rfl 24 (.tmp 2) rfl gb rfl 24 (c.cells A cap) (0, 0) _ HX.out Tryd.underlying24 rfl (by kernel_rfl) ?_))
  go_at_call 35
  refine (checked_calls c A cap w1 (Kd.C_below HR'.out HB.out) hok).mono ?_
  rintro e w2 hpost
  rcases hpost with ⟨hne, rfl, hb⟩ | ⟨h0, g, H, rfl, hH, hg, hX, hb⟩
  · have HB2 := Aside0.mk (below_step HB.out hb)
    have t1 : (checkN c != 0) = true := bne_iff_ne.2 hne
    have HE := Aside0.mk (show walkE c part = checkN c by unfold walkE; rw [if_neg hne])
    have HV := Aside0.mk (show ownV c part = [] by unfold ownV; rw [if_neg (fun h => hne h.1)])
    clear hne hb
    go_wp2_with fail
    go_ret2
    exact pair_no HV.out HE.out HB2.out
  · obtain ⟨hd0, hf1, hf2, hn16⟩ := check_ok h0
    have HHH := Aside0.mk (HH_of hd0 hH)
    have hlen := hH.1
    have hP1 := hd0.1
    have hP2 := hd0.2.1
    rw [← hlen] at hP1 hP2
    have HB2 := Aside0.mk (below_step HB.out hb)
    have HCH := Aside0.mk (C_cells hX hP2)
    have HX2 := Aside0.mk (blk_below HX.out hb)
    have HDH := Aside0.mk (And.intro hd0 hH)
    have H0 := Aside0.mk h0
    have HLN := Aside0.mk hlen
    rw [← hlen]
    clear hb hX hd0 hH h0 hlen
    by_cases ht : 0 ≤ part ∧ part ≤ (H.length : Int) - 1
    · have HTh := Aside0.mk (show There c part from ⟨ht.1, by have := HLN.out; omega⟩)
      have HE := Aside0.mk (show walkE c part = 0 by unfold walkE; rw [if_pos H0.out, if_pos HTh.out])
      have HV := Aside0.mk (show ownV c part = ownL H part.toNat c.f1.toNat by unfold ownV; rw [if_pos ⟨H0.out, HTh.out⟩, HHH.out])
      have hdec : decide (0 ≤ part ∧ part ≤ (H.length : Int) - 1) = true := decide_eq_true ht
      have HDec := Aside0.mk hdec
      obtain ⟨ht1, ht2⟩ := ht
      clear hdec
      have hc1 : w2.cell? ⟨gb, 1, none⟩ = some (.int .i64 c.f1) := (blk_cell HX2.out 1).trans rfl
      go_wp2_with (first | (go_at_call 40; refine (within_calls _ _ _ _).mono ?_; rw [HDec.out]; rintro e w' ⟨rfl, rfl⟩) | fail)
      go_at_call 41
      refine (round_calls H _ _ _ _ _ HCH.out hP1 hP2 ht1 (by omega) (by omega) hf2).mono ?_
      rintro e w3 ⟨v, rfl, hR, hb3⟩
      obtain ⟨m, hm⟩ : ∃ m, (walkL H part.toNat c.f1.toNat).length = m := ⟨_, rfl⟩
      obtain ⟨Ar, cr, rfl, hcr⟩ := R_slice_n hR hm
      have HM := Aside0.mk hm
      have HCr := Aside0.mk (show (Kd.int .i64).C w3 Ar m (walkL H part.toNat c.f1.toNat) from by
        obtain ⟨h1, h2, h3⟩ := Kd.R_reads' hR
        rwa [hm] at h3)
      have hml : m ≤ 64 := by
        have h1 := rnd_len H part.toNat c.f1.toNat H.length
        unfold walkL at hm
        rw [List.length_map] at hm
        omega
      have HB3 := Aside0.mk (below_step HB2.out hb3)
      have HCH3 := Aside0.mk (Kd.C_below HCH.out hb3)
      clear hR hb3 hc1 hm
      go_wp2_with fail
      go_loopw [8, 31] (fun v i wr => ∃ k : Nat, k ≤ m ∧ i = .int .i64 k ∧ Aside0 ((Kd.int .i64).R 3 wr w3.heap.size (fun _ => True) v ((ownL H part.toNat c.f1.toNat).take k)) ∧ Aside0 (Below w3.heap.size w3 wr)) (fun _ i _ => m - (intOf i).toNat)
      case atStart => exact ⟨0, Nat.zero_le _, rfl, ⟨Kd.R_nil _ _ _ _ _⟩, ⟨Below.refl _ _⟩⟩
      case round =>
        obtain ⟨k, hk, rfl, HO, HB5⟩ := hrel
        by_cases hlt : k < m
        · obtain ⟨adr, x, rfl, hx, hzx⟩ := int_at (Kd.C_below HCr.out HB5.out) k hlt
          have hkl : k < (rnd H part.toNat c.f1.toNat H.length).length := by
            have h1 := HM.out
            unfold walkL at h1
            rw [List.length_map] at h1
            omega
          unfold walkL at hx
          rw [List.getElem?_map, List.getElem?_eq_getElem hkl] at hx
          obtain rfl := Option.some.inj hx
          obtain ⟨t, ht⟩ : ∃ t, (rnd H part.toNat c.f1.toNat H.length)[k] = t := ⟨_, rfl⟩
          have htl := rnd_lt (H := H) (by omega) part.toNat c.f1.toNat H.length t (by rw [← ht]; exact List.getElem_mem hkl)
          have HTk : Aside0 ((ownL H part.toNat c.f1.toNat).take k ++ [hd H t] = (ownL H part.toNat c.f1.toNat).take (k + 1)) := ⟨by
            unfold ownL
            rw [List.take_succ_eq_append_getElem (by rw [List.length_map]; exact hkl), List.getElem_map, ht]⟩
          rw [ht] at hzx
          have hzx' : wr.cell? (adr.add k) = some (.int .i64 (t : Int)) := hzx
          clear hx ht hzx hkl
          obtain ⟨adH, y, he, hy, hzy⟩ := int_at (Kd.C_below HCH3.out HB5.out) t htl
          obtain rfl := Option.some.inj he
          rw [hd_at htl] at hy
          obtain rfl := Option.some.inj hy
          clear hy he
          rw [Addr.add_mid, Nat.zero_add] at hzy
          have b1 : (t : Int) < (H.length : Int) := by omega
          have HLk := Aside0.mk (show ((ownL H part.toNat c.f1.toNat).take k).length ≤ k from List.length_take_le _ _)
          go_wp2_with (first | ((with_reducible refine gate_builtin (b := .append) (xs := #[.tmp 35, .tmp 40]) rfl ?_); at_builtin; refine Kd.R_append (Kd.int .i64) (w0 := w3) w3.heap.size rfl (.tmp 35) (.tmp 40) 36 3 (.int .i64 0) 8 rfl Tryd.underlying36 infoInt rfl (by decide) (by decide) u8 ((ownL H part.toNat c.f1.toNat).take k) (hd H t) [.int .i64 (hd H t)] (fun _ => True) (fun _ => False) rfl rfl rfl (fun _ hk => hk.elim) (fun _ _ => trivial) HO.out HB5.out HB5.out.size (by have h1 := HLk.out; omega) ?_; intro v1 w6 HR1 hb1 hg1 hat1; have HR1 := Aside0.mk HR1; have HB6 := Aside0.mk hb1; clear hb1 hg1 hat1) | fail)
          go_roundw
          case rel => exact ⟨k + 1, by omega, by go_num, ⟨by rw [← HTk.out]; exact HR1.out⟩, HB6⟩
          case measure => simp [intOf]; omega
        · have HAll := Aside0.mk (show (ownL H part.toNat c.f1.toNat).take k = ownL H part.toNat c.f1.toNat from List.take_of_length_le (by
            have h1 := HM.out
            unfold walkL at h1
            unfold ownL
            rw [List.length_map] at h1 ⊢
            omega))
          go_wp2_with fail
          go_ret2
          exact ⟨_, by rw [HE.out]; rfl, by rw [HV.out, ← HAll.out]; exact Kd.R_lower HO.out HB3.out.size, below_step HB3.out HB5.out⟩
    · have HTh := Aside0.mk (show ¬ There c part from fun h => ht ⟨h.1, by have := HLN.out; have := h.2; omega⟩)
      have HE := Aside0.mk (show walkE c part = 69 by unfold walkE; rw [if_pos H0.out, if_neg HTh.out])
      have HV := Aside0.mk (show ownV c part = [] by unfold ownV; rw [if_neg (fun h => HTh.out h.2)])
      have HDec := Aside0.mk (decide_eq_false ht)
      clear ht
      go_wp2_with (first | (go_at_call 40; refine (within_calls _ _ _ _).mono ?_; rw [HDec.out]; rintro e w' ⟨rfl, rfl⟩) | fail)
      go_ret2
      exact pair_no HV.out HE.out HB2.out
end Go.Proofs.YtkcpeanimmjajaaDoor.Ring
