/- Words and lemmas that the claim's proof names, part 14: what the program's functions answer, at the inputs that each theorem's premises name. Conditions: each theorem's own premises. -/
import Derived.Test.YtljipbmmgcccnaaGreatKS13
section
namespace Go.Proofs.YtljipbmmgcccnaaGreat.T
open Go.RowKit Go.Proofs.YtljipbmmgcccnaaGreatW.PrintWords Go.Proofs.YtljipbmmgcccnaaGreatW.PrintLast Go.Proofs.YtljipbmmgcccnaaGreatW.PrintMore
attribute [local go_sem] cell_tc frozen_tc max2_int min2_int
attribute [local go_sem ↓] Go.wp_at_zero Go.wp_at_succ
set_option linter.unusedVariables false
set_option linter.unusedSimpArgs false
set_option synthInstance.maxHeartbeats 400000
set_option synthInstance.maxSize 512
attribute [local go_sem] cell_tc2
attribute [local go_sem high] eqA46 eqA98 eqA77 eqA48
theorem mem_ids_known (ps : List S98) (x : Int) : memB (idsOf ps) x = knownB ps x := by
  unfold memB idsOf knownB
  rw [List.any_map]
  rfl
def refOdd (id : Int) (ps : List S98) (x : Int) : Bool := x == id || memB (idsOf ps) x
theorem view_split (id : Int) (ps : List S98) (xs : List Int) : viewB id ps xs = (!(xs.any (refOdd id ps)) && (peersB id ps && (passB xs && decide (ps.length + xs.length ≤ 16)))) := by
  have e : xs.any (refOdd id ps) = xs.any (fun x => x == id || knownB ps x) := by
    congr 1
    funext x
    unfold refOdd
    rw [mem_ids_known]
  rw [e]
  unfold viewB
  cases peersB id ps <;> cases passB xs <;> cases decide (ps.length + xs.length ≤ 16) <;> cases xs.any (fun x => x == id || knownB ps x) <;> rfl
set_option maxRecDepth 100000 in
set_option maxHeartbeats 8000000 in
theorem refView_ {id : Int} {A B : Option Addr} {n c m d : Nat} {ps : List S98} {xs : List Int} {w : World} [h1 : Sr k98 w A n c ps] [h2 : Sr kI w B m d xs] (hn : n * 16 ≤ 140737488351232) (hs : n + m ≤ 1000000000000000) :
    Calls Tryz.prog 157 #[.agg #[.int .i64 id, .slice A n c, .slice B m d]] w fun e w' => e = .returned (.bool (viewB id ps xs)) ∧ BelL w w' := by
  obtain rfl := h1.len
  obtain rfl := h2.len
  have s1 := sr_l h1
  have s2 := sr_l h2
  have hlen : xs.length ≤ 9223372036854775807 := h2.C.2.1
  clear h1 h2
  go_enter Tryz.func157, Tryz.ntmps157
  go_wp2_with (first | (with_reducible refine gate_dst (N := 1) rfl ?_; refine box_tc rfl (N := 1) rfl (cs := #[.int .i64 id, .slice A ps.length c, .slice B xs.length d]) (t := 25) ?hr ?_; (case hr => first | (go_simp; done) | (go_simp; rfl)); intro g1 wg1 _ _ _) | (go_at_call 114; (with_reducible refine Calls.mono (refNames_ (ps := ps) hn) ?_); rintro e wn ⟨An, cn, rfl, hFn, hbn⟩))
  refine wp_letter fun wl hbl => ?_
  have B1 : BlkL wl g1 #[.int .i64 id, .slice A ps.length c, .slice B xs.length d] 25 := blkL
  have S1 : SrL kI wl An ps.length cn (idsOf ps) := sr_l inferInstance
  have S2 : SrL k98 wl A ps.length c ps := sr_l inferInstance
  have S3 : SrL kI wl B xs.length d xs := sr_l inferInstance
  have hwl : BelL w wl := belL
  go_loopg [4] xs.length (fun kq v4 w' => ∃ i : Nat, v4 = .int .i64 i ∧ i ≤ xs.length ∧ kq = xs.length - i ∧ Aside0 ((xs.take i).any (refOdd id ps) = false) ∧ BelL wl w')
  case atStart => exact ⟨0, rfl, Nat.zero_le _, rfl, ⟨rfl⟩, belL⟩
  case round =>
    obtain ⟨i, rfl, hi, rfl, HA, hbr⟩ := hrel
    by_cases hlt : i < xs.length
    · obtain ⟨ad, rfl, hx⟩ := el_I (W := wr) (A := B) (n := xs.length) (c := d) (l := xs) i hlt
      cases h3 : (xs[i] == id)
      · cases h4 : memB (idsOf ps) xs[i]
        · have HT := Aside0.mk (any_step hlt HA.out (show refOdd id ps xs[i] = false by unfold refOdd; rw [h3, h4]; rfl))
          go_upto_region 5 with (fail)
          (refine wp_region_bel (by kernel_rfl) (by kernel_rfl) ?_; (repeat (first | go_big_quiet_skip | (go_big_quiet_want; first | (go_big_quiet_op; go_big_quiet_on) | (apply Exists.intro; refine ⟨fun wq hq => ?_, ?_⟩; (focus (unfold Oper.quietAt; go_simp; first | done | exact ⟨rfl, rfl⟩ | exact rfl | (first | (go_at_call 185; refine Calls.mono (refHas_) ?_; rintro e w1 ⟨rfl, hb⟩; exact ⟨by rw [h4], belL⟩)))); (try simp only [Act.put, List.setIfInBounds_toArray, List.set_cons_zero, List.set_cons_succ]); go_big_quiet_on)))); refine wpQuiet_nil ?_; intro w7 hb7)
          go_wp2
          go_roundg (xs.length - (i + 1))
          case measure => omega
          case rel => exact ⟨i + 1, by go_num, by omega, rfl, HT, belL⟩
        · have HF := Aside0.mk (show viewB id ps xs = false by rw [view_split, any_stop hlt (show refOdd id ps xs[i] = true by unfold refOdd; rw [h4]; simp)]; rfl)
          go_upto_region 5 with (fail)
          (refine wp_region_bel (by kernel_rfl) (by kernel_rfl) ?_; (repeat (first | go_big_quiet_skip | (go_big_quiet_want; first | (go_big_quiet_op; go_big_quiet_on) | (apply Exists.intro; refine ⟨fun wq hq => ?_, ?_⟩; (focus (unfold Oper.quietAt; go_simp; first | done | exact ⟨rfl, rfl⟩ | exact rfl | (first | (go_at_call 185; refine Calls.mono (refHas_) ?_; rintro e w1 ⟨rfl, hb⟩; exact ⟨by rw [h4], belL⟩)))); (try simp only [Act.put, List.setIfInBounds_toArray, List.set_cons_zero, List.set_cons_succ]); go_big_quiet_on)))); refine wpQuiet_nil ?_; intro w7 hb7)
          go_wp2
          go_ret
          exact ⟨by rw [HF.out]; rfl, belL⟩
      · have HF := Aside0.mk (show viewB id ps xs = false by rw [view_split, any_stop hlt (show refOdd id ps xs[i] = true by unfold refOdd; rw [h3]; rfl)]; rfl)
        go_upto_region 5 with (fail)
        (refine wp_region_bel (by kernel_rfl) (by kernel_rfl) ?_; (repeat (first | go_big_quiet_skip | (go_big_quiet_want; first | (go_big_quiet_op; go_big_quiet_on) | (apply Exists.intro; refine ⟨fun wq hq => ?_, ?_⟩; (focus (unfold Oper.quietAt; go_simp; first | done | exact ⟨rfl, rfl⟩ | exact rfl | (first | (go_at_call 185; refine Calls.mono (refHas_) ?_; rintro e w1 ⟨rfl, hb⟩; exact ⟨by rw [h4], belL⟩)))); (try simp only [Act.put, List.setIfInBounds_toArray, List.set_cons_zero, List.set_cons_succ]); go_big_quiet_on)))); refine wpQuiet_nil ?_; intro w7 hb7)
        go_wp2
        go_ret
        exact ⟨by rw [HF.out]; rfl, belL⟩
    · have HT := Aside0.mk (show viewB id ps xs = (peersB id ps && (passB xs && decide (ps.length + xs.length ≤ 16))) by
        have := HA.out
        rw [List.take_of_length_le (by omega)] at this
        rw [view_split, this]; rfl)
      cases h5 : peersB id ps
      · have HT2 := Aside0.mk (show viewB id ps xs = false by rw [HT.out, h5]; rfl)
        go_wp2_with (first | (go_at_call 186; (with_reducible refine Calls.mono (refPeers_ (l := ps)) ?_); rw [h5]; rintro e wp ⟨rfl, hbp⟩) | (go_at_call 187; (with_reducible refine Calls.mono (refPass_ (l := xs)) ?_); rw [h6]; rintro e wq ⟨rfl, hbq⟩))
        go_ret
        exact ⟨by rw [HT2.out]; rfl, belL⟩
      cases h6 : passB xs
      · have HT2 := Aside0.mk (show viewB id ps xs = false by rw [HT.out, h5, h6]; rfl)
        go_wp2_with (first | (go_at_call 186; (with_reducible refine Calls.mono (refPeers_ (l := ps)) ?_); rw [h5]; rintro e wp ⟨rfl, hbp⟩) | (go_at_call 187; (with_reducible refine Calls.mono (refPass_ (l := xs)) ?_); rw [h6]; rintro e wq ⟨rfl, hbq⟩))
        go_ret
        exact ⟨by rw [HT2.out]; rfl, belL⟩
      · have HT2 := Aside0.mk (show viewB id ps xs = decide ((ps.length : Int) + (xs.length : Int) ≤ 16) by rw [HT.out, h5, h6, Bool.true_and, Bool.true_and]; exact decide_eq_decide.2 (by omega))
        go_wp2_with (first | (go_at_call 186; (with_reducible refine Calls.mono (refPeers_ (l := ps)) ?_); rw [h5]; rintro e wp ⟨rfl, hbp⟩) | (go_at_call 187; (with_reducible refine Calls.mono (refPass_ (l := xs)) ?_); rw [h6]; rintro e wq ⟨rfl, hbq⟩))
        go_ret
        exact ⟨by rw [HT2.out]; rfl, belL⟩
def atI (l : List S40) (id : Int) : Int := if l.findIdx (fun x => x.f1.f0 == id) < l.length then (l.findIdx (fun x => x.f1.f0 == id) : Nat) else -1
theorem atI_some {l : List S40} {id : Int} {i : Nat} (hi : i < l.length) (hp : (l[i].f1.f0 == id) = true) (ha : (l.take i).any (fun x => x.f1.f0 == id) = false) : atI l id = i := by
  have e : l.findIdx (fun x => x.f1.f0 == id) = i := by
    rw [List.findIdx_eq hi]
    refine ⟨hp, fun j hj => ?_⟩
    rw [List.any_eq_false] at ha
    have := ha l[j] (List.mem_take_iff_getElem.2 ⟨j, by omega, rfl⟩)
    simpa using this
  unfold atI
  rw [e, if_pos hi]
theorem atI_none {l : List S40} {id : Int} (ha : l.any (fun x => x.f1.f0 == id) = false) : atI l id = -1 := by
  have e : ¬ l.findIdx (fun x => x.f1.f0 == id) < l.length := by
    rw [List.findIdx_lt_length]
    rintro ⟨x, hx, hp⟩
    rw [List.any_eq_false] at ha
    exact ha x hx hp
  unfold atI
  rw [if_neg e]
theorem atI_at {l : List S40} {id : Int} (h : isNode l id = true) : ∃ (i : Nat) (hi : i < l.length), atI l id = i ∧ l[i].f1.f0 = id := by
  have e : l.findIdx (fun x => x.f1.f0 == id) < l.length := by
    rw [List.findIdx_lt_length]
    unfold isNode at h
    simpa using h
  refine ⟨_, e, by unfold atI; rw [if_pos e], ?_⟩
  have := List.findIdx_getElem (w := e)
  simpa using this
theorem atI_neg (l : List S40) (id : Int) : decide (atI l id < 0) = !isNode l id := by
  cases h : isNode l id
  · rw [atI_none h]; rfl
  · obtain ⟨i, hi, e, _⟩ := atI_at h
    rw [e]
    simp
theorem at_ {id : Int} {A : Option Addr} {n c : Nat} {l : List S40} {w : World} [h : Sr k40 w A n c l] :
    Calls Tryz.prog 64 #[.slice A n c, .int .i64 id] w fun e w' => e = .returned (.int .i64 (atI l id)) ∧ BelL w w' := by
  obtain rfl := h.len
  have HS := sr_l h
  have hlen : l.length ≤ 9223372036854775807 := h.C.2.1
  clear h
  go_enter Tryz.func64, Tryz.ntmps64
  go_wp2
  go_loopg [5] l.length (fun kq v5 w' => ∃ i : Nat, v5 = .int .i64 i ∧ i ≤ l.length ∧ kq = l.length - i ∧ Aside0 ((l.take i).any (fun x => x.f1.f0 == id) = false) ∧ BelL w w')
  case atStart => exact ⟨0, rfl, Nat.zero_le _, rfl, ⟨rfl⟩, belL⟩
  case round =>
    obtain ⟨i, rfl, hi, rfl, HA, hbr⟩ := hrel
    by_cases hlt : i < l.length
    · obtain ⟨ad, X2, y2, X3, y3, X4, y4, X5, y5, rfl, x0, x1, x2, x3, x4, x5, r2, r3, r4, r5⟩ := el_T40 (W := wr) (A := A) (n := l.length) (c := c) (l := l) i hlt
      clear r2 r3 r4 r5 x2 x3 x4 x5
      cases h1 : (l[i].f1.f0 == id)
      · have HT := Aside0.mk (any_step (p := fun x : S40 => x.f1.f0 == id) hlt HA.out h1)
        go_wp2
        go_roundg (l.length - (i + 1))
        case measure => omega
        case rel => exact ⟨i + 1, by go_num, by omega, rfl, HT, belL⟩
      · have HF := Aside0.mk (atI_some hlt h1 HA.out)
        go_wp2
        go_ret
        exact ⟨by rw [HF.out]; rfl, belL⟩
    · have HT := Aside0.mk (show atI l id = -1 from atI_none (by
        have := HA.out
        rwa [List.take_of_length_le (by omega)] at this))
      go_wp2
      go_ret
      exact ⟨by rw [HT.out]; rfl, belL⟩
theorem refAll_ {A B : Option Addr} {n c m d : Nat} {l : List S40} {xs : List Int} {w : World} [h : Sr k40 w A n c l] [g : Sr kI w B m d xs] :
    Calls Tryz.prog 113 #[.slice A n c, .slice B m d] w fun e w' => e = .returned (.bool (xs.all (isNode l))) ∧ BelL w w' := by
  obtain rfl := h.len
  obtain rfl := g.len
  have HS := sr_l h
  have HG := sr_l g
  have hlen : xs.length ≤ 9223372036854775807 := g.C.2.1
  clear h g
  go_enter Tryz.func113, Tryz.ntmps113
  go_wp2
  go_loopg [5] xs.length (fun kq v5 w' => ∃ i : Nat, v5 = .int .i64 i ∧ i ≤ xs.length ∧ kq = xs.length - i ∧ Aside0 ((xs.take i).all (isNode l) = true) ∧ BelL w w')
  case atStart => exact ⟨0, rfl, Nat.zero_le _, rfl, ⟨rfl⟩, belL⟩
  case round =>
    obtain ⟨i, rfl, hi, rfl, HA, hbr⟩ := hrel
    by_cases hlt : i < xs.length
    · obtain ⟨ad, rfl, hx⟩ := el_I (W := wr) (A := B) (n := xs.length) (c := d) (l := xs) i hlt
      have hq := atI_neg l xs[i]
      cases h1 : isNode l xs[i]
      · have HF := Aside0.mk (show xs.all (isNode l) = false from all_stop hlt h1)
        rw [h1] at hq
        have hq2 : decide (atI l xs[i] < 0) = true := hq
        clear hq
        go_wp2_with (first | (go_at_call 64; (with_reducible refine Calls.mono (at_ (l := l)) ?_); rintro e wb ⟨rfl, hb⟩))
        go_ret
        exact ⟨by rw [HF.out]; rfl, belL⟩
      · have HT := Aside0.mk (all_step hlt HA.out h1)
        rw [h1] at hq
        have hq2 : decide (atI l xs[i] < 0) = false := hq
        clear hq
        go_wp2_with (first | (go_at_call 64; (with_reducible refine Calls.mono (at_ (l := l)) ?_); rintro e wb ⟨rfl, hb⟩))
        go_roundg (xs.length - (i + 1))
        case measure => omega
        case rel => exact ⟨i + 1, by go_num, by omega, rfl, HT, belL⟩
    · have HT := Aside0.mk (show xs.all (isNode l) = true by
        have := HA.out
        rwa [List.take_of_length_le (by omega)] at this)
      go_wp2
      go_ret
      exact ⟨by rw [HT.out]; rfl, belL⟩
end Go.Proofs.YtljipbmmgcccnaaGreat.T
end
section
namespace Go.Proofs.YtljipbmmgcccnaaGreat.T
open Go.RowKit Go.Proofs.YtljipbmmgcccnaaGreatW.PrintWords Go.Proofs.YtljipbmmgcccnaaGreatW.PrintLast Go.Proofs.YtljipbmmgcccnaaGreatW.PrintMore
attribute [local go_sem] cell_tc frozen_tc max2_int min2_int
attribute [local go_sem ↓] Go.wp_at_zero Go.wp_at_succ
set_option linter.unusedVariables false
set_option linter.unusedSimpArgs false
set_option synthInstance.maxHeartbeats 400000
set_option synthInstance.maxSize 512
attribute [local go_sem] cell_tc2
attribute [local go_sem high] eqA46 eqA98 eqA77 eqA48
theorem node_down {id : Int} {ps : List S98} {xs : List Int} {is : List S48} {ls : List S77} : nodeB ⟨false, ⟨id, ps, xs⟩, is, ls⟩ = (decide (ps.length + xs.length + is.length + ls.length = 0) && placeB id) := by
  rw [Bool.eq_iff_iff, nodeB_iff]
  simp only [Bool.and_eq_true, decide_eq_true_eq, Bool.false_eq_true, false_or]
  constructor
  · rintro ⟨h1, h2, _⟩
    exact ⟨h1, h2.hid⟩
  · rintro ⟨h1, h2⟩
    obtain rfl : ps = [] := List.eq_nil_of_length_eq_zero (by omega)
    obtain rfl : xs = [] := List.eq_nil_of_length_eq_zero (by omega)
    obtain rfl : is = [] := List.eq_nil_of_length_eq_zero (by omega)
    obtain rfl : ls = [] := List.eq_nil_of_length_eq_zero (by omega)
    exact ⟨h1, ⟨h2, Nat.zero_le _, fun p hp => (nomatch hp), List.Pairwise.nil, fun p hp => (nomatch hp), List.Pairwise.nil⟩, rfl, Nat.zero_le _, fun t ht => (nomatch ht)⟩
theorem node_up {id : Int} {ps : List S98} {xs : List Int} {is : List S48} {ls : List S77} : nodeB ⟨true, ⟨id, ps, xs⟩, is, ls⟩ = (ls.all toldB && (viewB id ps xs && (storeB is && decide (ls.length ≤ 64)))) := by
  have e : (!badTolds ls) = ls.all toldB := by
    unfold badTolds
    rw [Bool.eq_iff_iff]
    simp
  unfold nodeB
  simp only [e]
  cases ls.all toldB <;> cases viewB id ps xs <;> cases storeB is <;> cases decide (ls.length ≤ 64) <;> rfl
set_option maxRecDepth 100000 in
set_option maxHeartbeats 4000000 in
theorem refNode_d {id : Int} {A B I L : Option Addr} {n c m d ni ci nl cl : Nat} {ps : List S98} {xs : List Int} {is : List S48} {ls : List S77} {w : World} [h1 : Sr k98 w A n c ps] [h2 : Sr kI w B m d xs] [h3 : Sr k48 w I ni ci is] [h4 : Sr k77 w L nl cl ls] (hs : n + m + ni + nl ≤ 1000000000000000) :
    Calls Tryz.prog 112 #[.agg #[.bool false, .int .i64 id, .slice A n c, .slice B m d, .slice I ni ci, .slice L nl cl]] w fun e w' => e = .returned (.bool (nodeB ⟨false, ⟨id, ps, xs⟩, is, ls⟩)) ∧ BelL w w' := by
  obtain rfl := h1.len
  obtain rfl := h2.len
  obtain rfl := h3.len
  obtain rfl := h4.len
  have s1 := sr_l h1
  have s2 := sr_l h2
  have s3 := sr_l h3
  have s4 := sr_l h4
  have hlen : ls.length ≤ 9223372036854775807 := h4.C.2.1
  clear h1 h2 h3 h4
  rw [node_down]
  by_cases zz : ps.length + xs.length + is.length + ls.length = 0
  · rw [decide_eq_true zz, Bool.true_and]
    have z1 : ((ps.length : Int) + (xs.length : Int) + (is.length : Int) + (ls.length : Int) == 0) = true := by simp; omega
    cases hp : placeB id
    · go_enter Tryz.func112, Tryz.ntmps112
      go_wp2_with (first | (with_reducible refine gate_dst (N := 1) rfl ?_; refine box_tc rfl (N := 1) rfl (cs := #[.bool false, .int .i64 id, .slice A ps.length c, .slice B xs.length d, .slice I is.length ci, .slice L ls.length cl]) (t := 40) ?hr ?_; (case hr => first | (go_simp; done) | (go_simp; rfl)); intro g1 wg1 _ _ _) | (go_at_call 155; (with_reducible refine Calls.mono refPlaceB_ ?_); rw [hp]; rintro e wb ⟨rfl, hb⟩))
      go_ret
      exact ⟨rfl, belL⟩
    · go_enter Tryz.func112, Tryz.ntmps112
      go_wp2_with (first | (with_reducible refine gate_dst (N := 1) rfl ?_; refine box_tc rfl (N := 1) rfl (cs := #[.bool false, .int .i64 id, .slice A ps.length c, .slice B xs.length d, .slice I is.length ci, .slice L ls.length cl]) (t := 40) ?hr ?_; (case hr => first | (go_simp; done) | (go_simp; rfl)); intro g1 wg1 _ _ _) | (go_at_call 155; (with_reducible refine Calls.mono refPlaceB_ ?_); rw [hp]; rintro e wb ⟨rfl, hb⟩))
      go_ret
      exact ⟨rfl, belL⟩
  · rw [decide_eq_false zz, Bool.false_and]
    have z1 : ((ps.length : Int) + (xs.length : Int) + (is.length : Int) + (ls.length : Int) == 0) = false := by simp; omega
    go_enter Tryz.func112, Tryz.ntmps112
    go_wp2_with (first | (with_reducible refine gate_dst (N := 1) rfl ?_; refine box_tc rfl (N := 1) rfl (cs := #[.bool false, .int .i64 id, .slice A ps.length c, .slice B xs.length d, .slice I is.length ci, .slice L ls.length cl]) (t := 40) ?hr ?_; (case hr => first | (go_simp; done) | (go_simp; rfl)); intro g1 wg1 _ _ _))
    go_ret
    exact ⟨rfl, belL⟩
set_option maxRecDepth 100000 in
set_option maxHeartbeats 8000000 in
theorem refNode_u {id : Int} {A B I L : Option Addr} {n c m d ni ci nl cl : Nat} {ps : List S98} {xs : List Int} {is : List S48} {ls : List S77} {w : World} [h1 : Sr k98 w A n c ps] [h2 : Sr kI w B m d xs] [h3 : Sr k48 w I ni ci is] [h4 : Sr k77 w L nl cl ls] (hn : n * 16 ≤ 140737488351232) (hs : n + m + ni + nl ≤ 1000000000000000) :
    Calls Tryz.prog 112 #[.agg #[.bool true, .int .i64 id, .slice A n c, .slice B m d, .slice I ni ci, .slice L nl cl]] w fun e w' => e = .returned (.bool (nodeB ⟨true, ⟨id, ps, xs⟩, is, ls⟩)) ∧ BelL w w' := by
  obtain rfl := h1.len
  obtain rfl := h2.len
  obtain rfl := h3.len
  obtain rfl := h4.len
  have s1 := sr_l h1
  have s2 := sr_l h2
  have s3 := sr_l h3
  have s4 := sr_l h4
  have hlen : ls.length ≤ 9223372036854775807 := h4.C.2.1
  clear h1 h2 h3 h4
  go_enter Tryz.func112, Tryz.ntmps112
  go_wp2_with (first | (with_reducible refine gate_dst (N := 1) rfl ?_; refine box_tc rfl (N := 1) rfl (cs := #[.bool true, .int .i64 id, .slice A ps.length c, .slice B xs.length d, .slice I is.length ci, .slice L ls.length cl]) (t := 40) ?hr ?_; (case hr => first | (go_simp; done) | (go_simp; rfl)); intro g1 wg1 _ _ _))
  refine wp_letter fun wl hbl => ?_
  have B1 : BlkL wl g1 #[.bool true, .int .i64 id, .slice A ps.length c, .slice B xs.length d, .slice I is.length ci, .slice L ls.length cl] 40 := blkL
  have hwl : BelL w wl := belL
  go_loopg [3, 4] ls.length (fun kq v3 v4 w' => ∃ i : Nat, v3 = .int .i64 i ∧ i ≤ ls.length ∧ kq = ls.length - i ∧ Aside0 ((ls.take i).all toldB = true) ∧ BelL wl w')
  case atStart => exact ⟨0, rfl, Nat.zero_le _, rfl, ⟨rfl⟩, belL⟩
  case round =>
    obtain ⟨i, rfl, hi, rfl, HA, hbr⟩ := hrel
    by_cases hlt : i < ls.length
    · obtain ⟨ad, rfl, x0, x1, x2⟩ := el_T77 (W := wr) (A := L) (n := ls.length) (c := cl) (l := ls) i hlt
      cases h5 : placeB ls[i].f0
      · have HF := Aside0.mk (show nodeB ⟨true, ⟨id, ps, xs⟩, is, ls⟩ = false by rw [node_up, all_stop hlt (show toldB ls[i] = false by unfold toldB; simp [h5])]; rfl)
        go_wp2_with (first | (with_reducible refine gate_dst (N := 4) rfl ?_; refine box_tc rfl (N := 4) rfl (cs := #[.int .i64 0, .bool false, .int .i64 0]) (t := 77) ?hr ?_; (case hr => first | (go_simp; done) | (go_simp; rfl)); intro g4 wg4 _ _ _) | (go_at_call 156; (with_reducible refine Calls.mono refByte16_ ?_); (first | rw [h5] | rw [h6]); rintro e wb ⟨rfl, hb⟩))
        go_ret
        exact ⟨by rw [HF.out]; rfl, belL⟩

      cases h6 : placeB ls[i].f2
      · have HF := Aside0.mk (show nodeB ⟨true, ⟨id, ps, xs⟩, is, ls⟩ = false by rw [node_up, all_stop hlt (show toldB ls[i] = false by unfold toldB; simp [h5, h6])]; rfl)
        go_wp2_with (first | (with_reducible refine gate_dst (N := 4) rfl ?_; refine box_tc rfl (N := 4) rfl (cs := #[.int .i64 0, .bool false, .int .i64 0]) (t := 77) ?hr ?_; (case hr => first | (go_simp; done) | (go_simp; rfl)); intro g4 wg4 _ _ _) | (go_at_call 156; (with_reducible refine Calls.mono refByte16_ ?_); (first | rw [h5] | rw [h6]); rintro e wb ⟨rfl, hb⟩))
        go_ret
        exact ⟨by rw [HF.out]; rfl, belL⟩

      cases h7 : ls[i].f1
      · cases h8 : (ls[i].f2 != 0)
        · have HT := Aside0.mk (all_step hlt HA.out (show toldB ls[i] = true by have h9 : (ls[i].f2 == 0) = true := (by simpa using h8); unfold toldB; rw [h5, h6, h7, h9]; rfl))
          go_wp2_with (first | (with_reducible refine gate_dst (N := 4) rfl ?_; refine box_tc rfl (N := 4) rfl (cs := #[.int .i64 0, .bool false, .int .i64 0]) (t := 77) ?hr ?_; (case hr => first | (go_simp; done) | (go_simp; rfl)); intro g4 wg4 _ _ _) | (go_at_call 156; (with_reducible refine Calls.mono refByte16_ ?_); (first | rw [h5] | rw [h6]); rintro e wb ⟨rfl, hb⟩))
          go_roundg (ls.length - (i + 1))
          case measure => omega
          case rel => exact ⟨i + 1, by go_num, by omega, rfl, HT, belL⟩

        · have HF := Aside0.mk (show nodeB ⟨true, ⟨id, ps, xs⟩, is, ls⟩ = false by rw [node_up, all_stop hlt (show toldB ls[i] = false by have h9 : (ls[i].f2 == 0) = false := (by simpa using h8); unfold toldB; rw [h5, h6, h7, h9]; rfl)]; rfl)
          go_wp2_with (first | (with_reducible refine gate_dst (N := 4) rfl ?_; refine box_tc rfl (N := 4) rfl (cs := #[.int .i64 0, .bool false, .int .i64 0]) (t := 77) ?hr ?_; (case hr => first | (go_simp; done) | (go_simp; rfl)); intro g4 wg4 _ _ _) | (go_at_call 156; (with_reducible refine Calls.mono refByte16_ ?_); (first | rw [h5] | rw [h6]); rintro e wb ⟨rfl, hb⟩))
          go_ret
          exact ⟨by rw [HF.out]; rfl, belL⟩

      · have HT := Aside0.mk (all_step hlt HA.out (show toldB ls[i] = true by unfold toldB; simp [h5, h6, h7]))
        go_wp2_with (first | (with_reducible refine gate_dst (N := 4) rfl ?_; refine box_tc rfl (N := 4) rfl (cs := #[.int .i64 0, .bool false, .int .i64 0]) (t := 77) ?hr ?_; (case hr => first | (go_simp; done) | (go_simp; rfl)); intro g4 wg4 _ _ _) | (go_at_call 156; (with_reducible refine Calls.mono refByte16_ ?_); (first | rw [h5] | rw [h6]); rintro e wb ⟨rfl, hb⟩))
        go_roundg (ls.length - (i + 1))
        case measure => omega
        case rel => exact ⟨i + 1, by go_num, by omega, rfl, HT, belL⟩

    · have HT := Aside0.mk (show nodeB ⟨true, ⟨id, ps, xs⟩, is, ls⟩ = (viewB id ps xs && (storeB is && decide (ls.length ≤ 64))) by
        have := HA.out
        rw [List.take_of_length_le (by omega)] at this
        rw [node_up, this]; rfl)
      cases h5 : viewB id ps xs
      · have HT2 := Aside0.mk (show nodeB ⟨true, ⟨id, ps, xs⟩, is, ls⟩ = false by rw [HT.out, h5]; rfl)
        go_wp2_with (first | (go_at_call 157; (with_reducible refine Calls.mono (refView_ (ps := ps) (xs := xs) hn (by omega)) ?_); rw [h5]; rintro e wp ⟨rfl, hbp⟩) | (go_at_call 84; (with_reducible refine Calls.mono (refStore_ (l := is)) ?_); rw [h6]; rintro e wq ⟨rfl, hbq⟩))
        go_ret
        exact ⟨by rw [HT2.out]; rfl, belL⟩
      cases h6 : storeB is
      · have HT2 := Aside0.mk (show nodeB ⟨true, ⟨id, ps, xs⟩, is, ls⟩ = false by rw [HT.out, h5, h6]; rfl)
        go_wp2_with (first | (go_at_call 157; (with_reducible refine Calls.mono (refView_ (ps := ps) (xs := xs) hn (by omega)) ?_); rw [h5]; rintro e wp ⟨rfl, hbp⟩) | (go_at_call 84; (with_reducible refine Calls.mono (refStore_ (l := is)) ?_); rw [h6]; rintro e wq ⟨rfl, hbq⟩))
        go_ret
        exact ⟨by rw [HT2.out]; rfl, belL⟩
      · have HT2 := Aside0.mk (show nodeB ⟨true, ⟨id, ps, xs⟩, is, ls⟩ = decide ((ls.length : Int) ≤ 64) by rw [HT.out, h5, h6, Bool.true_and, Bool.true_and]; exact decide_eq_decide.2 (by omega))
        go_wp2_with (first | (go_at_call 157; (with_reducible refine Calls.mono (refView_ (ps := ps) (xs := xs) hn (by omega)) ?_); rw [h5]; rintro e wp ⟨rfl, hbp⟩) | (go_at_call 84; (with_reducible refine Calls.mono (refStore_ (l := is)) ?_); rw [h6]; rintro e wq ⟨rfl, hbq⟩))
        go_ret
        exact ⟨by rw [HT2.out]; rfl, belL⟩
theorem refNode_ {up : Bool} {id : Int} {A B I L : Option Addr} {n c m d ni ci nl cl : Nat} {ps : List S98} {xs : List Int} {is : List S48} {ls : List S77} {w : World} [h1 : Sr k98 w A n c ps] [h2 : Sr kI w B m d xs] [h3 : Sr k48 w I ni ci is] [h4 : Sr k77 w L nl cl ls] (hn : n * 16 ≤ 140737488351232) (hs : n + m + ni + nl ≤ 1000000000000000) :
    Calls Tryz.prog 112 #[.agg #[.bool up, .int .i64 id, .slice A n c, .slice B m d, .slice I ni ci, .slice L nl cl]] w fun e w' => e = .returned (.bool (nodeB ⟨up, ⟨id, ps, xs⟩, is, ls⟩)) ∧ BelL w w' := by
  cases up
  · exact refNode_d hs
  · exact refNode_u hn hs
end Go.Proofs.YtljipbmmgcccnaaGreat.T
end
section
namespace Go.Proofs.YtljipbmmgcccnaaGreat.T
open Go.RowKit Go.Proofs.YtljipbmmgcccnaaGreatW.PrintWords Go.Proofs.YtljipbmmgcccnaaGreatW.PrintLast Go.Proofs.YtljipbmmgcccnaaGreatW.PrintMore
attribute [local go_sem] cell_tc frozen_tc max2_int min2_int
attribute [local go_sem ↓] Go.wp_at_zero Go.wp_at_succ
set_option linter.unusedVariables false
set_option linter.unusedSimpArgs false
set_option synthInstance.maxHeartbeats 400000
set_option synthInstance.maxSize 512
attribute [local go_sem] cell_tc2
attribute [local go_sem high] eqA46 eqA98 eqA77 eqA48
theorem eqZ48 (d : Nat) (w : World) (x0 x1 x2 x3 : Int) (x4 : Bool) :
    (Op.equalIn (d + 3) 48 (.agg #[.int .i64 x0, .int .i64 x1, .int .i64 x2, .int .i64 x3, .bool x4]) (.agg #[.int .i64 0, .int .i64 0, .int .i64 0, .int .i64 0, .bool false])).run Tryz.prog w = .ok (itemZ ⟨x0, ⟨x1, x2⟩, x3, x4⟩) w := by
  rw [eqA48]
  congr 1
  unfold itemZ
  cases x4 <;> simp [Bool.and_assoc]
attribute [-go_sem] eqA48
attribute [local go_sem high] eqZ48
theorem zz48 : itemZ z48 = true := rfl
set_option maxRecDepth 100000 in
set_option maxHeartbeats 16000000 in
theorem refMsg_0 {mf : Int} {mt : Int} {my : Int} {ik : Int} {ic : Int} {ix : Int} {iv : Int} {ig : Bool} {mh : Bool} {A : Option Addr} {c : Nat} {ids : List Int} {w : World} [h : Sr kI w A ids.length c ids]  :
    Calls Tryz.prog 188 #[.agg #[.int .i64 0, .int .i64 mf, .int .i64 mt, .slice A ids.length c, .int .i64 my, .int .i64 ik, .int .i64 ic, .int .i64 ix, .int .i64 iv, .bool ig, .bool mh]] w fun e w' => e = .returned (.bool (msgB ⟨0, mf, mt, ids, my, ⟨ik, ⟨ic, ix⟩, iv, ig⟩, mh⟩)) ∧ BelL w w' := by
  have hs := sr_l h
  clear h
  have LE := Aside0.mk (show decide ((ids.length : Int) ≤ 16) = decide (ids.length ≤ 16) from decide_eq_decide.2 (by omega))
  cases h_pf : placeB mf
  have HV := Aside0.mk (show msgB ⟨0, mf, mt, ids, my, ⟨ik, ⟨ic, ix⟩, iv, ig⟩, mh⟩ = false by simp [msgB, kindB, noneB, itemOk, zz48, h_pf])
  rotate_left
  cases h_pt : placeB mt
  have HV := Aside0.mk (show msgB ⟨0, mf, mt, ids, my, ⟨ik, ⟨ic, ix⟩, iv, ig⟩, mh⟩ = false by simp [msgB, kindB, noneB, itemOk, zz48, h_pf, h_pt])
  rotate_left
  cases h_ft : (mf == mt)
  cases h_y0 : (my == 0)
  have h_y0' : ¬ my = 0 := by simpa using h_y0
  have HV := Aside0.mk (show msgB ⟨0, mf, mt, ids, my, ⟨ik, ⟨ic, ix⟩, iv, ig⟩, mh⟩ = false by simp [msgB, kindB, noneB, itemOk, zz48, h_pf, h_pt, h_ft, h_y0, h_y0'])
  clear h_y0'
  rotate_left
  cases h_z : itemZ ⟨ik, ⟨ic, ix⟩, iv, ig⟩
  have h_y0' : my = 0 := by simpa using h_y0
  have HV := Aside0.mk (show msgB ⟨0, mf, mt, ids, my, ⟨ik, ⟨ic, ix⟩, iv, ig⟩, mh⟩ = false by simp [msgB, kindB, noneB, itemOk, zz48, h_pf, h_pt, h_ft, h_y0, h_z, h_y0'])
  clear h_y0'
  rotate_left
  cases mh
  cases h_ps : placesB ids
  have h_y0' : my = 0 := by simpa using h_y0
  have HV := Aside0.mk (show msgB ⟨0, mf, mt, ids, my, ⟨ik, ⟨ic, ix⟩, iv, ig⟩, false⟩ = false by simp [msgB, kindB, noneB, itemOk, zz48, h_pf, h_pt, h_ft, h_y0, h_z, h_ps, h_y0'])
  clear h_y0'
  rotate_left
  have h_y0' : my = 0 := by simpa using h_y0
  have HV := Aside0.mk (show msgB ⟨0, mf, mt, ids, my, ⟨ik, ⟨ic, ix⟩, iv, ig⟩, false⟩ = decide ((ids.length : Int) ≤ 16) by simp [msgB, kindB, noneB, itemOk, zz48, h_pf, h_pt, h_ft, h_y0, h_z, h_ps, LE.out, h_y0'])
  clear h_y0'
  rotate_left
  have h_y0' : my = 0 := by simpa using h_y0
  have HV := Aside0.mk (show msgB ⟨0, mf, mt, ids, my, ⟨ik, ⟨ic, ix⟩, iv, ig⟩, true⟩ = false by simp [msgB, kindB, noneB, itemOk, zz48, h_pf, h_pt, h_ft, h_y0, h_z, h_y0'])
  clear h_y0'
  rotate_left
  have HV := Aside0.mk (show msgB ⟨0, mf, mt, ids, my, ⟨ik, ⟨ic, ix⟩, iv, ig⟩, mh⟩ = false by simp [msgB, kindB, noneB, itemOk, zz48, h_pf, h_pt, h_ft])
  rotate_left
  all_goals
    go_enter Tryz.func188, Tryz.ntmps188
    go_wp2_with (first | (with_reducible refine gate_dst (N := 1) rfl ?_; refine box_tc rfl (N := 1) rfl (cs := #[.int .i64 0, .int .i64 mf, .int .i64 mt, .slice A ids.length c, .int .i64 my, .int .i64 ik, .int .i64 ic, .int .i64 ix, .int .i64 iv, .bool ig, .bool _]) (t := 126) ?hr ?_; (case hr => first | (go_simp; done) | (go_simp; rfl)); intro g1 wg1 _ _ _) | (go_at_call 155; (with_reducible refine Calls.mono refPlaceB_ ?_); (first | rw [h_pf] | rw [h_pt] | rw [h_py]); rintro e wb ⟨rfl, hb⟩) | (go_at_call 205; (with_reducible refine Calls.mono (refPlaces_ (l := ids)) ?_); rintro e wb ⟨rfl, hb⟩) | (go_at_call 85; (with_reducible refine Calls.mono (refItem_) ?_); rintro e wb ⟨rfl, hb⟩))
    go_ret
    exact ⟨by rw [HV.out]; rfl, belL⟩
set_option maxRecDepth 100000 in
set_option maxHeartbeats 16000000 in
theorem refMsg_1 {mf : Int} {mt : Int} {my : Int} {ik : Int} {ic : Int} {ix : Int} {iv : Int} {ig : Bool} {mh : Bool} {A : Option Addr} {c : Nat} {ids : List Int} {w : World} [h : Sr kI w A ids.length c ids]  :
    Calls Tryz.prog 188 #[.agg #[.int .i64 1, .int .i64 mf, .int .i64 mt, .slice A ids.length c, .int .i64 my, .int .i64 ik, .int .i64 ic, .int .i64 ix, .int .i64 iv, .bool ig, .bool mh]] w fun e w' => e = .returned (.bool (msgB ⟨1, mf, mt, ids, my, ⟨ik, ⟨ic, ix⟩, iv, ig⟩, mh⟩)) ∧ BelL w w' := by
  have hs := sr_l h
  clear h
  cases h_pf : placeB mf
  have HV := Aside0.mk (show msgB ⟨1, mf, mt, ids, my, ⟨ik, ⟨ic, ix⟩, iv, ig⟩, mh⟩ = false by simp [msgB, kindB, noneB, itemOk, zz48, h_pf])
  rotate_left
  cases h_pt : placeB mt
  have HV := Aside0.mk (show msgB ⟨1, mf, mt, ids, my, ⟨ik, ⟨ic, ix⟩, iv, ig⟩, mh⟩ = false by simp [msgB, kindB, noneB, itemOk, zz48, h_pf, h_pt])
  rotate_left
  cases h_ft : (mf == mt)
  cases h_y0 : (my == 0)
  cases h_l0 : ((ids.length : Int) == 0)
  have h_l0' : ¬ ids.length = 0 := by simpa using h_l0
  have h_y0' : ¬ my = 0 := by simpa using h_y0
  have HV := Aside0.mk (show msgB ⟨1, mf, mt, ids, my, ⟨ik, ⟨ic, ix⟩, iv, ig⟩, mh⟩ = false by simp [msgB, kindB, noneB, itemOk, zz48, h_pf, h_pt, h_ft, h_y0, h_l0, h_l0', h_y0'])
  clear h_l0' h_y0'
  rotate_left
  have h_l0' : ids.length = 0 := by simpa using h_l0
  have h_y0' : ¬ my = 0 := by simpa using h_y0
  have HV := Aside0.mk (show msgB ⟨1, mf, mt, ids, my, ⟨ik, ⟨ic, ix⟩, iv, ig⟩, mh⟩ = false by simp [msgB, kindB, noneB, itemOk, zz48, h_pf, h_pt, h_ft, h_y0, h_l0, h_l0', h_y0'])
  clear h_l0' h_y0'
  rotate_left
  cases h_z : itemZ ⟨ik, ⟨ic, ix⟩, iv, ig⟩
  cases h_l0 : ((ids.length : Int) == 0)
  have h_l0' : ¬ ids.length = 0 := by simpa using h_l0
  have h_y0' : my = 0 := by simpa using h_y0
  have HV := Aside0.mk (show msgB ⟨1, mf, mt, ids, my, ⟨ik, ⟨ic, ix⟩, iv, ig⟩, mh⟩ = false by simp [msgB, kindB, noneB, itemOk, zz48, h_pf, h_pt, h_ft, h_y0, h_z, h_l0, h_l0', h_y0'])
  clear h_l0' h_y0'
  rotate_left
  cases mh
  have h_l0' : ids.length = 0 := by simpa using h_l0
  have h_y0' : my = 0 := by simpa using h_y0
  have HV := Aside0.mk (show msgB ⟨1, mf, mt, ids, my, ⟨ik, ⟨ic, ix⟩, iv, ig⟩, false⟩ = itemB ik ic ix iv ig by simp [msgB, kindB, noneB, itemOk, zz48, h_pf, h_pt, h_ft, h_y0, h_z, h_l0, h_l0', h_y0'])
  clear h_l0' h_y0'
  rotate_left
  have h_l0' : ids.length = 0 := by simpa using h_l0
  have h_y0' : my = 0 := by simpa using h_y0
  have HV := Aside0.mk (show msgB ⟨1, mf, mt, ids, my, ⟨ik, ⟨ic, ix⟩, iv, ig⟩, true⟩ = false by simp [msgB, kindB, noneB, itemOk, zz48, h_pf, h_pt, h_ft, h_y0, h_z, h_l0, h_l0', h_y0'])
  clear h_l0' h_y0'
  rotate_left
  cases mh
  cases h_l0 : ((ids.length : Int) == 0)
  have h_l0' : ¬ ids.length = 0 := by simpa using h_l0
  have h_y0' : my = 0 := by simpa using h_y0
  have HV := Aside0.mk (show msgB ⟨1, mf, mt, ids, my, ⟨ik, ⟨ic, ix⟩, iv, ig⟩, false⟩ = false by simp [msgB, kindB, noneB, itemOk, zz48, h_pf, h_pt, h_ft, h_y0, h_z, h_l0, h_l0', h_y0'])
  clear h_l0' h_y0'
  rotate_left
  have h_l0' : ids.length = 0 := by simpa using h_l0
  have h_y0' : my = 0 := by simpa using h_y0
  have HV := Aside0.mk (show msgB ⟨1, mf, mt, ids, my, ⟨ik, ⟨ic, ix⟩, iv, ig⟩, false⟩ = itemB ik ic ix iv ig by simp [msgB, kindB, noneB, itemOk, zz48, h_pf, h_pt, h_ft, h_y0, h_z, h_l0, h_l0', h_y0'])
  clear h_l0' h_y0'
  rotate_left
  cases h_l0 : ((ids.length : Int) == 0)
  have h_l0' : ¬ ids.length = 0 := by simpa using h_l0
  have h_y0' : my = 0 := by simpa using h_y0
  have HV := Aside0.mk (show msgB ⟨1, mf, mt, ids, my, ⟨ik, ⟨ic, ix⟩, iv, ig⟩, true⟩ = false by simp [msgB, kindB, noneB, itemOk, zz48, h_pf, h_pt, h_ft, h_y0, h_z, h_l0, h_l0', h_y0'])
  clear h_l0' h_y0'
  rotate_left
  have h_l0' : ids.length = 0 := by simpa using h_l0
  have h_y0' : my = 0 := by simpa using h_y0
  have HV := Aside0.mk (show msgB ⟨1, mf, mt, ids, my, ⟨ik, ⟨ic, ix⟩, iv, ig⟩, true⟩ = false by simp [msgB, kindB, noneB, itemOk, zz48, h_pf, h_pt, h_ft, h_y0, h_z, h_l0, h_l0', h_y0'])
  clear h_l0' h_y0'
  rotate_left
  have HV := Aside0.mk (show msgB ⟨1, mf, mt, ids, my, ⟨ik, ⟨ic, ix⟩, iv, ig⟩, mh⟩ = false by simp [msgB, kindB, noneB, itemOk, zz48, h_pf, h_pt, h_ft])
  rotate_left
  all_goals
    go_enter Tryz.func188, Tryz.ntmps188
    go_wp2_with (first | (with_reducible refine gate_dst (N := 1) rfl ?_; refine box_tc rfl (N := 1) rfl (cs := #[.int .i64 1, .int .i64 mf, .int .i64 mt, .slice A ids.length c, .int .i64 my, .int .i64 ik, .int .i64 ic, .int .i64 ix, .int .i64 iv, .bool ig, .bool _]) (t := 126) ?hr ?_; (case hr => first | (go_simp; done) | (go_simp; rfl)); intro g1 wg1 _ _ _) | (go_at_call 155; (with_reducible refine Calls.mono refPlaceB_ ?_); (first | rw [h_pf] | rw [h_pt] | rw [h_py]); rintro e wb ⟨rfl, hb⟩) | (go_at_call 205; (with_reducible refine Calls.mono (refPlaces_ (l := ids)) ?_); rintro e wb ⟨rfl, hb⟩) | (go_at_call 85; (with_reducible refine Calls.mono (refItem_) ?_); rintro e wb ⟨rfl, hb⟩))
    go_ret
    exact ⟨by rw [HV.out]; rfl, belL⟩
set_option maxRecDepth 100000 in
set_option maxHeartbeats 16000000 in
theorem refMsg_2 {mf : Int} {mt : Int} {my : Int} {ik : Int} {ic : Int} {ix : Int} {iv : Int} {ig : Bool} {mh : Bool} {A : Option Addr} {c : Nat} {ids : List Int} {w : World} [h : Sr kI w A ids.length c ids]  :
    Calls Tryz.prog 188 #[.agg #[.int .i64 2, .int .i64 mf, .int .i64 mt, .slice A ids.length c, .int .i64 my, .int .i64 ik, .int .i64 ic, .int .i64 ix, .int .i64 iv, .bool ig, .bool mh]] w fun e w' => e = .returned (.bool (msgB ⟨2, mf, mt, ids, my, ⟨ik, ⟨ic, ix⟩, iv, ig⟩, mh⟩)) ∧ BelL w w' := by
  have hs := sr_l h
  clear h
  cases h_pf : placeB mf
  have HV := Aside0.mk (show msgB ⟨2, mf, mt, ids, my, ⟨ik, ⟨ic, ix⟩, iv, ig⟩, mh⟩ = false by simp [msgB, kindB, noneB, itemOk, zz48, h_pf])
  rotate_left
  cases h_pt : placeB mt
  have HV := Aside0.mk (show msgB ⟨2, mf, mt, ids, my, ⟨ik, ⟨ic, ix⟩, iv, ig⟩, mh⟩ = false by simp [msgB, kindB, noneB, itemOk, zz48, h_pf, h_pt])
  rotate_left
  cases h_ft : (mf == mt)
  cases h_y0 : (my == 0)
  cases h_l0 : ((ids.length : Int) == 0)
  have h_l0' : ¬ ids.length = 0 := by simpa using h_l0
  have h_y0' : ¬ my = 0 := by simpa using h_y0
  have HV := Aside0.mk (show msgB ⟨2, mf, mt, ids, my, ⟨ik, ⟨ic, ix⟩, iv, ig⟩, mh⟩ = false by simp [msgB, kindB, noneB, itemOk, zz48, h_pf, h_pt, h_ft, h_y0, h_l0, h_l0'])
  clear h_l0' h_y0'
  rotate_left
  cases h_py : placeB my
  have h_l0' : ids.length = 0 := by simpa using h_l0
  have h_y0' : ¬ my = 0 := by simpa using h_y0
  have HV := Aside0.mk (show msgB ⟨2, mf, mt, ids, my, ⟨ik, ⟨ic, ix⟩, iv, ig⟩, mh⟩ = false by simp [msgB, kindB, noneB, itemOk, zz48, h_pf, h_pt, h_ft, h_y0, h_l0, h_py, h_l0'])
  clear h_l0' h_y0'
  rotate_left
  cases h_z : itemZ ⟨ik, ⟨ic, ix⟩, iv, ig⟩
  have h_l0' : ids.length = 0 := by simpa using h_l0
  have h_y0' : ¬ my = 0 := by simpa using h_y0
  have HV := Aside0.mk (show msgB ⟨2, mf, mt, ids, my, ⟨ik, ⟨ic, ix⟩, iv, ig⟩, mh⟩ = false by simp [msgB, kindB, noneB, itemOk, zz48, h_pf, h_pt, h_ft, h_y0, h_l0, h_py, h_z, h_l0'])
  clear h_l0' h_y0'
  rotate_left
  cases mh
  have h_l0' : ids.length = 0 := by simpa using h_l0
  have h_y0' : ¬ my = 0 := by simpa using h_y0
  have HV := Aside0.mk (show msgB ⟨2, mf, mt, ids, my, ⟨ik, ⟨ic, ix⟩, iv, ig⟩, false⟩ = true by simp [msgB, kindB, noneB, itemOk, zz48, h_pf, h_pt, h_ft, h_y0, h_l0, h_py, h_z, h_l0'])
  clear h_l0' h_y0'
  rotate_left
  have h_l0' : ids.length = 0 := by simpa using h_l0
  have h_y0' : ¬ my = 0 := by simpa using h_y0
  have HV := Aside0.mk (show msgB ⟨2, mf, mt, ids, my, ⟨ik, ⟨ic, ix⟩, iv, ig⟩, true⟩ = false by simp [msgB, kindB, noneB, itemOk, zz48, h_pf, h_pt, h_ft, h_y0, h_l0, h_py, h_z, h_l0'])
  clear h_l0' h_y0'
  rotate_left
  cases h_z : itemZ ⟨ik, ⟨ic, ix⟩, iv, ig⟩
  cases h_l0 : ((ids.length : Int) == 0)
  have h_l0' : ¬ ids.length = 0 := by simpa using h_l0
  have h_y0' : my = 0 := by simpa using h_y0
  have HV := Aside0.mk (show msgB ⟨2, mf, mt, ids, my, ⟨ik, ⟨ic, ix⟩, iv, ig⟩, mh⟩ = false by simp [msgB, kindB, noneB, itemOk, zz48, h_pf, h_pt, h_ft, h_y0, h_z, h_l0, h_l0'])
  clear h_l0' h_y0'
  rotate_left
  cases h_py : placeB my
  have h_l0' : ids.length = 0 := by simpa using h_l0
  have h_y0' : my = 0 := by simpa using h_y0
  have HV := Aside0.mk (show msgB ⟨2, mf, mt, ids, my, ⟨ik, ⟨ic, ix⟩, iv, ig⟩, mh⟩ = false by simp [msgB, kindB, noneB, itemOk, zz48, h_pf, h_pt, h_ft, h_y0, h_z, h_l0, h_py, h_l0'])
  clear h_l0' h_y0'
  rotate_left
  have h_l0' : ids.length = 0 := by simpa using h_l0
  have h_y0' : my = 0 := by simpa using h_y0
  have HV := Aside0.mk (show msgB ⟨2, mf, mt, ids, my, ⟨ik, ⟨ic, ix⟩, iv, ig⟩, mh⟩ = false by simp [msgB, kindB, noneB, itemOk, zz48, h_pf, h_pt, h_ft, h_y0, h_z, h_l0, h_py, h_l0'])
  clear h_l0' h_y0'
  rotate_left
  cases mh
  cases h_l0 : ((ids.length : Int) == 0)
  have h_l0' : ¬ ids.length = 0 := by simpa using h_l0
  have h_y0' : my = 0 := by simpa using h_y0
  have HV := Aside0.mk (show msgB ⟨2, mf, mt, ids, my, ⟨ik, ⟨ic, ix⟩, iv, ig⟩, false⟩ = false by simp [msgB, kindB, noneB, itemOk, zz48, h_pf, h_pt, h_ft, h_y0, h_z, h_l0, h_l0'])
  clear h_l0' h_y0'
  rotate_left
  cases h_py : placeB my
  have h_l0' : ids.length = 0 := by simpa using h_l0
  have h_y0' : my = 0 := by simpa using h_y0
  have HV := Aside0.mk (show msgB ⟨2, mf, mt, ids, my, ⟨ik, ⟨ic, ix⟩, iv, ig⟩, false⟩ = false by simp [msgB, kindB, noneB, itemOk, zz48, h_pf, h_pt, h_ft, h_y0, h_z, h_l0, h_py, h_l0'])
  clear h_l0' h_y0'
  rotate_left
  have h_l0' : ids.length = 0 := by simpa using h_l0
  have h_y0' : my = 0 := by simpa using h_y0
  have HV := Aside0.mk (show msgB ⟨2, mf, mt, ids, my, ⟨ik, ⟨ic, ix⟩, iv, ig⟩, false⟩ = true by simp [msgB, kindB, noneB, itemOk, zz48, h_pf, h_pt, h_ft, h_y0, h_z, h_l0, h_py, h_l0'])
  clear h_l0' h_y0'
  rotate_left
  cases h_l0 : ((ids.length : Int) == 0)
  have h_l0' : ¬ ids.length = 0 := by simpa using h_l0
  have h_y0' : my = 0 := by simpa using h_y0
  have HV := Aside0.mk (show msgB ⟨2, mf, mt, ids, my, ⟨ik, ⟨ic, ix⟩, iv, ig⟩, true⟩ = false by simp [msgB, kindB, noneB, itemOk, zz48, h_pf, h_pt, h_ft, h_y0, h_z, h_l0, h_l0'])
  clear h_l0' h_y0'
  rotate_left
  cases h_py : placeB my
  have h_l0' : ids.length = 0 := by simpa using h_l0
  have h_y0' : my = 0 := by simpa using h_y0
  have HV := Aside0.mk (show msgB ⟨2, mf, mt, ids, my, ⟨ik, ⟨ic, ix⟩, iv, ig⟩, true⟩ = false by simp [msgB, kindB, noneB, itemOk, zz48, h_pf, h_pt, h_ft, h_y0, h_z, h_l0, h_py, h_l0'])
  clear h_l0' h_y0'
  rotate_left
  have h_l0' : ids.length = 0 := by simpa using h_l0
  have h_y0' : my = 0 := by simpa using h_y0
  have HV := Aside0.mk (show msgB ⟨2, mf, mt, ids, my, ⟨ik, ⟨ic, ix⟩, iv, ig⟩, true⟩ = false by simp [msgB, kindB, noneB, itemOk, zz48, h_pf, h_pt, h_ft, h_y0, h_z, h_l0, h_py, h_l0'])
  clear h_l0' h_y0'
  rotate_left
  have HV := Aside0.mk (show msgB ⟨2, mf, mt, ids, my, ⟨ik, ⟨ic, ix⟩, iv, ig⟩, mh⟩ = false by simp [msgB, kindB, noneB, itemOk, zz48, h_pf, h_pt, h_ft])
  rotate_left
  all_goals
    go_enter Tryz.func188, Tryz.ntmps188
    go_wp2_with (first | (with_reducible refine gate_dst (N := 1) rfl ?_; refine box_tc rfl (N := 1) rfl (cs := #[.int .i64 2, .int .i64 mf, .int .i64 mt, .slice A ids.length c, .int .i64 my, .int .i64 ik, .int .i64 ic, .int .i64 ix, .int .i64 iv, .bool ig, .bool _]) (t := 126) ?hr ?_; (case hr => first | (go_simp; done) | (go_simp; rfl)); intro g1 wg1 _ _ _) | (go_at_call 155; (with_reducible refine Calls.mono refPlaceB_ ?_); (first | rw [h_pf] | rw [h_pt] | rw [h_py]); rintro e wb ⟨rfl, hb⟩) | (go_at_call 205; (with_reducible refine Calls.mono (refPlaces_ (l := ids)) ?_); rintro e wb ⟨rfl, hb⟩) | (go_at_call 85; (with_reducible refine Calls.mono (refItem_) ?_); rintro e wb ⟨rfl, hb⟩))
    go_ret
    exact ⟨by rw [HV.out]; rfl, belL⟩
set_option maxRecDepth 100000 in
set_option maxHeartbeats 16000000 in
theorem refMsg_3 {mf : Int} {mt : Int} {my : Int} {ik : Int} {ic : Int} {ix : Int} {iv : Int} {ig : Bool} {mh : Bool} {A : Option Addr} {c : Nat} {ids : List Int} {w : World} [h : Sr kI w A ids.length c ids]  :
    Calls Tryz.prog 188 #[.agg #[.int .i64 3, .int .i64 mf, .int .i64 mt, .slice A ids.length c, .int .i64 my, .int .i64 ik, .int .i64 ic, .int .i64 ix, .int .i64 iv, .bool ig, .bool mh]] w fun e w' => e = .returned (.bool (msgB ⟨3, mf, mt, ids, my, ⟨ik, ⟨ic, ix⟩, iv, ig⟩, mh⟩)) ∧ BelL w w' := by
  have hs := sr_l h
  clear h
  cases h_pf : placeB mf
  have HV := Aside0.mk (show msgB ⟨3, mf, mt, ids, my, ⟨ik, ⟨ic, ix⟩, iv, ig⟩, mh⟩ = false by simp [msgB, kindB, noneB, itemOk, zz48, h_pf])
  rotate_left
  cases h_pt : placeB mt
  have HV := Aside0.mk (show msgB ⟨3, mf, mt, ids, my, ⟨ik, ⟨ic, ix⟩, iv, ig⟩, mh⟩ = false by simp [msgB, kindB, noneB, itemOk, zz48, h_pf, h_pt])
  rotate_left
  cases h_ft : (mf == mt)
  cases h_y0 : (my == 0)
  cases h_l0 : ((ids.length : Int) == 0)
  have h_l0' : ¬ ids.length = 0 := by simpa using h_l0
  have h_y0' : ¬ my = 0 := by simpa using h_y0
  have HV := Aside0.mk (show msgB ⟨3, mf, mt, ids, my, ⟨ik, ⟨ic, ix⟩, iv, ig⟩, mh⟩ = false by simp [msgB, kindB, noneB, itemOk, zz48, h_pf, h_pt, h_ft, h_y0, h_l0, h_l0'])
  clear h_l0' h_y0'
  rotate_left
  cases h_py : placeB my
  have h_l0' : ids.length = 0 := by simpa using h_l0
  have h_y0' : ¬ my = 0 := by simpa using h_y0
  have HV := Aside0.mk (show msgB ⟨3, mf, mt, ids, my, ⟨ik, ⟨ic, ix⟩, iv, ig⟩, mh⟩ = false by simp [msgB, kindB, noneB, itemOk, zz48, h_pf, h_pt, h_ft, h_y0, h_l0, h_py, h_l0'])
  clear h_l0' h_y0'
  rotate_left
  cases mh
  cases h_z : itemZ ⟨ik, ⟨ic, ix⟩, iv, ig⟩
  have h_l0' : ids.length = 0 := by simpa using h_l0
  have h_y0' : ¬ my = 0 := by simpa using h_y0
  have HV := Aside0.mk (show msgB ⟨3, mf, mt, ids, my, ⟨ik, ⟨ic, ix⟩, iv, ig⟩, false⟩ = false by simp [msgB, kindB, noneB, itemOk, zz48, h_pf, h_pt, h_ft, h_y0, h_l0, h_py, h_z, h_l0'])
  clear h_l0' h_y0'
  rotate_left
  have h_l0' : ids.length = 0 := by simpa using h_l0
  have h_y0' : ¬ my = 0 := by simpa using h_y0
  have HV := Aside0.mk (show msgB ⟨3, mf, mt, ids, my, ⟨ik, ⟨ic, ix⟩, iv, ig⟩, false⟩ = true by simp [msgB, kindB, noneB, itemOk, zz48, h_pf, h_pt, h_ft, h_y0, h_l0, h_py, h_z, h_l0'])
  clear h_l0' h_y0'
  rotate_left
  cases h_io : itemB ik ic ix iv ig
  have h_l0' : ids.length = 0 := by simpa using h_l0
  have h_y0' : ¬ my = 0 := by simpa using h_y0
  have HV := Aside0.mk (show msgB ⟨3, mf, mt, ids, my, ⟨ik, ⟨ic, ix⟩, iv, ig⟩, true⟩ = false by simp [msgB, kindB, noneB, itemOk, zz48, h_pf, h_pt, h_ft, h_y0, h_l0, h_py, h_io, h_l0'])
  clear h_l0' h_y0'
  rotate_left
  cases h_ky : (ik == my)
  have h_l0' : ids.length = 0 := by simpa using h_l0
  have h_y0' : ¬ my = 0 := by simpa using h_y0
  have HV := Aside0.mk (show msgB ⟨3, mf, mt, ids, my, ⟨ik, ⟨ic, ix⟩, iv, ig⟩, true⟩ = false by simp [msgB, kindB, noneB, itemOk, zz48, h_pf, h_pt, h_ft, h_y0, h_l0, h_py, h_io, h_ky, h_l0'])
  clear h_l0' h_y0'
  rotate_left
  have h_l0' : ids.length = 0 := by simpa using h_l0
  have h_y0' : ¬ my = 0 := by simpa using h_y0
  have HV := Aside0.mk (show msgB ⟨3, mf, mt, ids, my, ⟨ik, ⟨ic, ix⟩, iv, ig⟩, true⟩ = true by simp [msgB, kindB, noneB, itemOk, zz48, h_pf, h_pt, h_ft, h_y0, h_l0, h_py, h_io, h_ky, h_l0'])
  clear h_l0' h_y0'
  rotate_left
  cases h_z : itemZ ⟨ik, ⟨ic, ix⟩, iv, ig⟩
  cases h_l0 : ((ids.length : Int) == 0)
  have h_l0' : ¬ ids.length = 0 := by simpa using h_l0
  have h_y0' : my = 0 := by simpa using h_y0
  have HV := Aside0.mk (show msgB ⟨3, mf, mt, ids, my, ⟨ik, ⟨ic, ix⟩, iv, ig⟩, mh⟩ = false by simp [msgB, kindB, noneB, itemOk, zz48, h_pf, h_pt, h_ft, h_y0, h_z, h_l0, h_l0'])
  clear h_l0' h_y0'
  rotate_left
  cases h_py : placeB my
  have h_l0' : ids.length = 0 := by simpa using h_l0
  have h_y0' : my = 0 := by simpa using h_y0
  have HV := Aside0.mk (show msgB ⟨3, mf, mt, ids, my, ⟨ik, ⟨ic, ix⟩, iv, ig⟩, mh⟩ = false by simp [msgB, kindB, noneB, itemOk, zz48, h_pf, h_pt, h_ft, h_y0, h_z, h_l0, h_py, h_l0'])
  clear h_l0' h_y0'
  rotate_left
  cases mh
  have h_l0' : ids.length = 0 := by simpa using h_l0
  have h_y0' : my = 0 := by simpa using h_y0
  have HV := Aside0.mk (show msgB ⟨3, mf, mt, ids, my, ⟨ik, ⟨ic, ix⟩, iv, ig⟩, false⟩ = false by simp [msgB, kindB, noneB, itemOk, zz48, h_pf, h_pt, h_ft, h_y0, h_z, h_l0, h_py, h_l0'])
  clear h_l0' h_y0'
  rotate_left
  cases h_io : itemB ik ic ix iv ig
  have h_l0' : ids.length = 0 := by simpa using h_l0
  have h_y0' : my = 0 := by simpa using h_y0
  have HV := Aside0.mk (show msgB ⟨3, mf, mt, ids, my, ⟨ik, ⟨ic, ix⟩, iv, ig⟩, true⟩ = false by simp [msgB, kindB, noneB, itemOk, zz48, h_pf, h_pt, h_ft, h_y0, h_z, h_l0, h_py, h_io, h_l0'])
  clear h_l0' h_y0'
  rotate_left
  cases h_ky : (ik == my)
  have h_l0' : ids.length = 0 := by simpa using h_l0
  have h_y0' : my = 0 := by simpa using h_y0
  have HV := Aside0.mk (show msgB ⟨3, mf, mt, ids, my, ⟨ik, ⟨ic, ix⟩, iv, ig⟩, true⟩ = false by simp [msgB, kindB, noneB, itemOk, zz48, h_pf, h_pt, h_ft, h_y0, h_z, h_l0, h_py, h_io, h_ky, h_l0'])
  clear h_l0' h_y0'
  rotate_left
  have h_l0' : ids.length = 0 := by simpa using h_l0
  have h_y0' : my = 0 := by simpa using h_y0
  have HV := Aside0.mk (show msgB ⟨3, mf, mt, ids, my, ⟨ik, ⟨ic, ix⟩, iv, ig⟩, true⟩ = true by simp [msgB, kindB, noneB, itemOk, zz48, h_pf, h_pt, h_ft, h_y0, h_z, h_l0, h_py, h_io, h_ky, h_l0'])
  clear h_l0' h_y0'
  rotate_left
  cases mh
  cases h_l0 : ((ids.length : Int) == 0)
  have h_l0' : ¬ ids.length = 0 := by simpa using h_l0
  have h_y0' : my = 0 := by simpa using h_y0
  have HV := Aside0.mk (show msgB ⟨3, mf, mt, ids, my, ⟨ik, ⟨ic, ix⟩, iv, ig⟩, false⟩ = false by simp [msgB, kindB, noneB, itemOk, zz48, h_pf, h_pt, h_ft, h_y0, h_z, h_l0, h_l0'])
  clear h_l0' h_y0'
  rotate_left
  cases h_py : placeB my
  have h_l0' : ids.length = 0 := by simpa using h_l0
  have h_y0' : my = 0 := by simpa using h_y0
  have HV := Aside0.mk (show msgB ⟨3, mf, mt, ids, my, ⟨ik, ⟨ic, ix⟩, iv, ig⟩, false⟩ = false by simp [msgB, kindB, noneB, itemOk, zz48, h_pf, h_pt, h_ft, h_y0, h_z, h_l0, h_py, h_l0'])
  clear h_l0' h_y0'
  rotate_left
  have h_l0' : ids.length = 0 := by simpa using h_l0
  have h_y0' : my = 0 := by simpa using h_y0
  have HV := Aside0.mk (show msgB ⟨3, mf, mt, ids, my, ⟨ik, ⟨ic, ix⟩, iv, ig⟩, false⟩ = true by simp [msgB, kindB, noneB, itemOk, zz48, h_pf, h_pt, h_ft, h_y0, h_z, h_l0, h_py, h_l0'])
  clear h_l0' h_y0'
  rotate_left
  cases h_l0 : ((ids.length : Int) == 0)
  have h_l0' : ¬ ids.length = 0 := by simpa using h_l0
  have h_y0' : my = 0 := by simpa using h_y0
  have HV := Aside0.mk (show msgB ⟨3, mf, mt, ids, my, ⟨ik, ⟨ic, ix⟩, iv, ig⟩, true⟩ = false by simp [msgB, kindB, noneB, itemOk, zz48, h_pf, h_pt, h_ft, h_y0, h_z, h_l0, h_l0'])
  clear h_l0' h_y0'
  rotate_left
  cases h_py : placeB my
  have h_l0' : ids.length = 0 := by simpa using h_l0
  have h_y0' : my = 0 := by simpa using h_y0
  have HV := Aside0.mk (show msgB ⟨3, mf, mt, ids, my, ⟨ik, ⟨ic, ix⟩, iv, ig⟩, true⟩ = false by simp [msgB, kindB, noneB, itemOk, zz48, h_pf, h_pt, h_ft, h_y0, h_z, h_l0, h_py, h_l0'])
  clear h_l0' h_y0'
  rotate_left
  cases h_io : itemB ik ic ix iv ig
  have h_l0' : ids.length = 0 := by simpa using h_l0
  have h_y0' : my = 0 := by simpa using h_y0
  have HV := Aside0.mk (show msgB ⟨3, mf, mt, ids, my, ⟨ik, ⟨ic, ix⟩, iv, ig⟩, true⟩ = false by simp [msgB, kindB, noneB, itemOk, zz48, h_pf, h_pt, h_ft, h_y0, h_z, h_l0, h_py, h_io, h_l0'])
  clear h_l0' h_y0'
  rotate_left
  cases h_ky : (ik == my)
  have h_l0' : ids.length = 0 := by simpa using h_l0
  have h_y0' : my = 0 := by simpa using h_y0
  have HV := Aside0.mk (show msgB ⟨3, mf, mt, ids, my, ⟨ik, ⟨ic, ix⟩, iv, ig⟩, true⟩ = false by simp [msgB, kindB, noneB, itemOk, zz48, h_pf, h_pt, h_ft, h_y0, h_z, h_l0, h_py, h_io, h_ky, h_l0'])
  clear h_l0' h_y0'
  rotate_left
  have h_l0' : ids.length = 0 := by simpa using h_l0
  have h_y0' : my = 0 := by simpa using h_y0
  have HV := Aside0.mk (show msgB ⟨3, mf, mt, ids, my, ⟨ik, ⟨ic, ix⟩, iv, ig⟩, true⟩ = true by simp [msgB, kindB, noneB, itemOk, zz48, h_pf, h_pt, h_ft, h_y0, h_z, h_l0, h_py, h_io, h_ky, h_l0'])
  clear h_l0' h_y0'
  rotate_left
  have HV := Aside0.mk (show msgB ⟨3, mf, mt, ids, my, ⟨ik, ⟨ic, ix⟩, iv, ig⟩, mh⟩ = false by simp [msgB, kindB, noneB, itemOk, zz48, h_pf, h_pt, h_ft])
  rotate_left
  all_goals
    go_enter Tryz.func188, Tryz.ntmps188
    go_wp2_with (first | (with_reducible refine gate_dst (N := 1) rfl ?_; refine box_tc rfl (N := 1) rfl (cs := #[.int .i64 3, .int .i64 mf, .int .i64 mt, .slice A ids.length c, .int .i64 my, .int .i64 ik, .int .i64 ic, .int .i64 ix, .int .i64 iv, .bool ig, .bool _]) (t := 126) ?hr ?_; (case hr => first | (go_simp; done) | (go_simp; rfl)); intro g1 wg1 _ _ _) | (go_at_call 155; (with_reducible refine Calls.mono refPlaceB_ ?_); (first | rw [h_pf] | rw [h_pt] | rw [h_py]); rintro e wb ⟨rfl, hb⟩) | (go_at_call 205; (with_reducible refine Calls.mono (refPlaces_ (l := ids)) ?_); rintro e wb ⟨rfl, hb⟩) | (go_at_call 85; (with_reducible refine Calls.mono (refItem_) ?_); rintro e wb ⟨rfl, hb⟩))
    go_ret
    exact ⟨by rw [HV.out]; rfl, belL⟩
set_option maxRecDepth 100000 in
set_option maxHeartbeats 16000000 in
theorem refMsg_4 {mk : Int} {mf : Int} {mt : Int} {my : Int} {ik : Int} {ic : Int} {ix : Int} {iv : Int} {ig : Bool} {mh : Bool} {A : Option Addr} {c : Nat} {ids : List Int} {w : World} [h : Sr kI w A ids.length c ids] (q0 : ¬ mk = 0) (q1 : ¬ mk = 1) (q2 : ¬ mk = 2) (q3 : ¬ mk = 3) :
    Calls Tryz.prog 188 #[.agg #[.int .i64 mk, .int .i64 mf, .int .i64 mt, .slice A ids.length c, .int .i64 my, .int .i64 ik, .int .i64 ic, .int .i64 ix, .int .i64 iv, .bool ig, .bool mh]] w fun e w' => e = .returned (.bool (msgB ⟨mk, mf, mt, ids, my, ⟨ik, ⟨ic, ix⟩, iv, ig⟩, mh⟩)) ∧ BelL w w' := by
  have hs := sr_l h
  clear h
  have r0 : (mk == 0) = false := by simpa using q0
  have r1 : (mk == 1) = false := by simpa using q1
  have r2 : (mk == 2) = false := by simpa using q2
  have r3 : (mk == 3) = false := by simpa using q3
  cases h_pf : placeB mf
  have HV := Aside0.mk (show msgB ⟨mk, mf, mt, ids, my, ⟨ik, ⟨ic, ix⟩, iv, ig⟩, mh⟩ = false by simp [msgB, kindB, noneB, itemOk, zz48, q0, q1, q2, q3, h_pf])
  rotate_left
  cases h_pt : placeB mt
  have HV := Aside0.mk (show msgB ⟨mk, mf, mt, ids, my, ⟨ik, ⟨ic, ix⟩, iv, ig⟩, mh⟩ = false by simp [msgB, kindB, noneB, itemOk, zz48, q0, q1, q2, q3, h_pf, h_pt])
  rotate_left
  cases h_ft : (mf == mt)
  cases h_y0 : (my == 0)
  have h_y0' : ¬ my = 0 := by simpa using h_y0
  have HV := Aside0.mk (show msgB ⟨mk, mf, mt, ids, my, ⟨ik, ⟨ic, ix⟩, iv, ig⟩, mh⟩ = false by simp [msgB, kindB, noneB, itemOk, zz48, q0, q1, q2, q3, h_pf, h_pt, h_ft, h_y0])
  clear h_y0'
  rotate_left
  cases h_z : itemZ ⟨ik, ⟨ic, ix⟩, iv, ig⟩
  have h_y0' : my = 0 := by simpa using h_y0
  have HV := Aside0.mk (show msgB ⟨mk, mf, mt, ids, my, ⟨ik, ⟨ic, ix⟩, iv, ig⟩, mh⟩ = false by simp [msgB, kindB, noneB, itemOk, zz48, q0, q1, q2, q3, h_pf, h_pt, h_ft, h_y0, h_z])
  clear h_y0'
  rotate_left
  cases mh
  have h_y0' : my = 0 := by simpa using h_y0
  have HV := Aside0.mk (show msgB ⟨mk, mf, mt, ids, my, ⟨ik, ⟨ic, ix⟩, iv, ig⟩, false⟩ = false by simp [msgB, kindB, noneB, itemOk, zz48, q0, q1, q2, q3, h_pf, h_pt, h_ft, h_y0, h_z])
  clear h_y0'
  rotate_left
  have h_y0' : my = 0 := by simpa using h_y0
  have HV := Aside0.mk (show msgB ⟨mk, mf, mt, ids, my, ⟨ik, ⟨ic, ix⟩, iv, ig⟩, true⟩ = false by simp [msgB, kindB, noneB, itemOk, zz48, q0, q1, q2, q3, h_pf, h_pt, h_ft, h_y0, h_z])
  clear h_y0'
  rotate_left
  have HV := Aside0.mk (show msgB ⟨mk, mf, mt, ids, my, ⟨ik, ⟨ic, ix⟩, iv, ig⟩, mh⟩ = false by simp [msgB, kindB, noneB, itemOk, zz48, q0, q1, q2, q3, h_pf, h_pt, h_ft])
  rotate_left
  all_goals
    go_enter Tryz.func188, Tryz.ntmps188
    go_wp2_with (first | (with_reducible refine gate_dst (N := 1) rfl ?_; refine box_tc rfl (N := 1) rfl (cs := #[.int .i64 mk, .int .i64 mf, .int .i64 mt, .slice A ids.length c, .int .i64 my, .int .i64 ik, .int .i64 ic, .int .i64 ix, .int .i64 iv, .bool ig, .bool _]) (t := 126) ?hr ?_; (case hr => first | (go_simp; done) | (go_simp; rfl)); intro g1 wg1 _ _ _) | (go_at_call 155; (with_reducible refine Calls.mono refPlaceB_ ?_); (first | rw [h_pf] | rw [h_pt] | rw [h_py]); rintro e wb ⟨rfl, hb⟩) | (go_at_call 205; (with_reducible refine Calls.mono (refPlaces_ (l := ids)) ?_); rintro e wb ⟨rfl, hb⟩) | (go_at_call 85; (with_reducible refine Calls.mono (refItem_) ?_); rintro e wb ⟨rfl, hb⟩))
    go_ret
    exact ⟨by rw [HV.out]; rfl, belL⟩
theorem refMsg_ {mk mf mt my ik ic ix iv : Int} {ig mh : Bool} {A : Option Addr} {n c : Nat} {ids : List Int} {w : World} [h : Sr kI w A n c ids] :
    Calls Tryz.prog 188 #[.agg #[.int .i64 mk, .int .i64 mf, .int .i64 mt, .slice A n c, .int .i64 my, .int .i64 ik, .int .i64 ic, .int .i64 ix, .int .i64 iv, .bool ig, .bool mh]] w fun e w' => e = .returned (.bool (msgB ⟨mk, mf, mt, ids, my, ⟨ik, ⟨ic, ix⟩, iv, ig⟩, mh⟩)) ∧ BelL w w' := by
  obtain rfl := h.len
  by_cases q0 : mk = 0
  · subst q0; exact refMsg_0
  by_cases q1 : mk = 1
  · subst q1; exact refMsg_1
  by_cases q2 : mk = 2
  · subst q2; exact refMsg_2
  by_cases q3 : mk = 3
  · subst q3; exact refMsg_3
  exact refMsg_4 q0 q1 q2 q3
end Go.Proofs.YtljipbmmgcccnaaGreat.T
end
section
namespace Go.Proofs.YtljipbmmgcccnaaGreat.T
open Go.RowKit Go.Proofs.YtljipbmmgcccnaaGreatW.PrintWords Go.Proofs.YtljipbmmgcccnaaGreatW.PrintLast Go.Proofs.YtljipbmmgcccnaaGreatW.PrintMore
attribute [local go_sem] cell_tc frozen_tc max2_int min2_int
attribute [local go_sem ↓] Go.wp_at_zero Go.wp_at_succ
set_option linter.unusedVariables false
set_option linter.unusedSimpArgs false
set_option synthInstance.maxHeartbeats 400000
set_option synthInstance.maxSize 512
attribute [local go_sem] cell_tc2
attribute [local go_sem high] eqA46 eqA98 eqA77 eqA48
set_option maxHeartbeats 4000000 in
theorem refQueue_ {A : Option Addr} {n c : Nat} {l : List S126} {w : World} [h : Sr k126 w A n c l] :
    Calls Tryz.prog 158 #[.slice A n c] w fun e w' => e = .returned (.bool (queueB l)) ∧ BelL w w' := by
  obtain rfl := h.len
  have HS := sr_l h
  have hlen : l.length ≤ 9223372036854775807 := h.C.2.1
  have hq : queueB l = (l.all msgB && decide (l.length ≤ 512)) := by
    unfold queueB badMsgs
    rw [Bool.and_comm]
    congr 1
    rw [Bool.eq_iff_iff]
    simp
  clear h
  go_enter Tryz.func158, Tryz.ntmps158
  go_wp2
  go_loopg [3] l.length (fun kq v3 w' => ∃ i : Nat, v3 = .int .i64 i ∧ i ≤ l.length ∧ kq = l.length - i ∧ Aside0 ((l.take i).all msgB = true) ∧ BelL w w')
  case atStart => exact ⟨0, rfl, Nat.zero_le _, rfl, ⟨rfl⟩, belL⟩
  case round =>
    obtain ⟨i, rfl, hi, rfl, HA, hbr⟩ := hrel
    by_cases hlt : i < l.length
    · obtain ⟨ad, A3, c3, rfl, x0, x1, x2, x3, x4, x5, x6, x7, x8, x9, x10, g3⟩ := el_T126 (W := wr) (A := A) (n := l.length) (c := c) (l := l) i hlt
      have HXI := Aside0.mk (show (⟨l[i].f0, l[i].f1, l[i].f2, l[i].f3, l[i].f4, ⟨l[i].f5.f0, ⟨l[i].f5.f1.f0, l[i].f5.f1.f1⟩, l[i].f5.f2, l[i].f5.f3⟩, l[i].f6⟩ : S126) = l[i] from rfl)
      cases h1 : msgB ⟨l[i].f0, l[i].f1, l[i].f2, l[i].f3, l[i].f4, ⟨l[i].f5.f0, ⟨l[i].f5.f1.f0, l[i].f5.f1.f1⟩, l[i].f5.f2, l[i].f5.f3⟩, l[i].f6⟩
      · have HF := Aside0.mk (show queueB l = false by rw [hq, all_stop hlt h1]; rfl)
        go_wp2_with (first | (go_at_call 188; (with_reducible refine Calls.mono (refMsg_ (n := l[i].f3.length) (ids := l[i].f3)) ?_); rw [h1]; rintro e wb ⟨rfl, hb⟩))
        go_ret
        exact ⟨by rw [HF.out]; rfl, belL⟩
      · have HT := Aside0.mk (all_step hlt HA.out h1)
        go_wp2_with (first | (go_at_call 188; (with_reducible refine Calls.mono (refMsg_ (n := l[i].f3.length) (ids := l[i].f3)) ?_); rw [h1]; rintro e wb ⟨rfl, hb⟩))
        go_roundg (l.length - (i + 1))
        case measure => omega
        case rel => exact ⟨i + 1, by go_num, by omega, rfl, HT, belL⟩
    · have HT := Aside0.mk (show queueB l = decide ((l.length : Int) ≤ 512) by
        have := HA.out
        rw [List.take_of_length_le (by omega)] at this
        rw [hq, this, Bool.true_and]; exact decide_eq_decide.2 (by omega))
      go_wp2
      go_ret
      exact ⟨by rw [HT.out]; rfl, belL⟩
def packB (ns : List S40) (m : S126) : Bool := isNode ns m.f1 && (isNode ns m.f2 && m.f3.all (isNode ns))
set_option maxRecDepth 100000 in
set_option maxHeartbeats 8000000 in
theorem refPackets_ {A B : Option Addr} {n c m d : Nat} {ns : List S40} {ms : List S126} {w : World} [h : Sr k40 w A n c ns] [g : Sr k126 w B m d ms] :
    Calls Tryz.prog 116 #[.slice A n c, .slice B m d] w fun e w' => e = .returned (.bool (ms.all (packB ns) && queueB ms)) ∧ BelL w w' := by
  obtain rfl := h.len
  obtain rfl := g.len
  have HS := sr_l h
  have HG := sr_l g
  have hlen : ms.length ≤ 9223372036854775807 := g.C.2.1
  clear h g
  go_enter Tryz.func116, Tryz.ntmps116
  go_wp2
  go_loopg [5] ms.length (fun kq v5 w' => ∃ i : Nat, v5 = .int .i64 i ∧ i ≤ ms.length ∧ kq = ms.length - i ∧ Aside0 ((ms.take i).all (packB ns) = true) ∧ BelL w w')
  case atStart => exact ⟨0, rfl, Nat.zero_le _, rfl, ⟨rfl⟩, belL⟩
  case round =>
    obtain ⟨i, rfl, hi, rfl, HA, hbr⟩ := hrel
    by_cases hlt : i < ms.length
    · obtain ⟨ad, A3, c3, rfl, x0, x1, x2, x3, x4, x5, x6, x7, x8, x9, x10, g3⟩ := el_T126 (W := wr) (A := B) (n := ms.length) (c := d) (l := ms) i hlt
      have hq1 := atI_neg ns ms[i].f1
      have hq2 := atI_neg ns ms[i].f2
      cases h3 : isNode ns ms[i].f1
      · rw [h3] at hq1
        simp only [Bool.not_false] at hq1
        have HF := Aside0.mk (show ms.all (packB ns) = false from all_stop hlt (by unfold packB; simp [h3]))
        go_wp2_with (first | (go_at_call 64; (with_reducible refine Calls.mono (at_ (l := ns)) ?_); rintro e wb ⟨rfl, hb⟩) | (go_at_call 113; (with_reducible refine Calls.mono (refAll_ (l := ns) (xs := ms[i].f3)) ?_); rw [h5]; rintro e w1 ⟨rfl, hb⟩))
        go_ret
        exact ⟨by rw [HF.out]; rfl, belL⟩
      rw [h3] at hq1
      simp only [Bool.not_true] at hq1
      cases h4 : isNode ns ms[i].f2
      · rw [h4] at hq2
        simp only [Bool.not_false] at hq2
        have HF := Aside0.mk (show ms.all (packB ns) = false from all_stop hlt (by unfold packB; simp [h3, h4]))
        go_wp2_with (first | (go_at_call 64; (with_reducible refine Calls.mono (at_ (l := ns)) ?_); rintro e wb ⟨rfl, hb⟩) | (go_at_call 113; (with_reducible refine Calls.mono (refAll_ (l := ns) (xs := ms[i].f3)) ?_); rw [h5]; rintro e w1 ⟨rfl, hb⟩))
        go_ret
        exact ⟨by rw [HF.out]; rfl, belL⟩
      rw [h4] at hq2
      simp only [Bool.not_true] at hq2
      cases h5 : ms[i].f3.all (isNode ns)
      · have h5' := Aside0.mk h5
        have HF := Aside0.mk (show ms.all (packB ns) = false from all_stop hlt (by unfold packB; rw [h3, h4, h5'.out]; rfl))
        go_wp2_with (first | (go_at_call 64; (with_reducible refine Calls.mono (at_ (l := ns)) ?_); rintro e wb ⟨rfl, hb⟩) | (go_at_call 113; (with_reducible refine Calls.mono (refAll_ (l := ns) (xs := ms[i].f3)) ?_); rw [h5]; rintro e w1 ⟨rfl, hb⟩))
        go_ret
        exact ⟨by rw [HF.out]; rfl, belL⟩
      · have HT := Aside0.mk (all_step hlt HA.out (show packB ns ms[i] = true by unfold packB; rw [h3, h4, h5]; rfl))
        go_wp2_with (first | (go_at_call 64; (with_reducible refine Calls.mono (at_ (l := ns)) ?_); rintro e wb ⟨rfl, hb⟩) | (go_at_call 113; (with_reducible refine Calls.mono (refAll_ (l := ns) (xs := ms[i].f3)) ?_); rw [h5]; rintro e w1 ⟨rfl, hb⟩))
        go_roundg (ms.length - (i + 1))
        case measure => omega
        case rel => exact ⟨i + 1, by go_num, by omega, rfl, HT, belL⟩
    · have HT := Aside0.mk (show (ms.all (packB ns) && queueB ms) = queueB ms by
        have := HA.out
        rw [List.take_of_length_le (by omega)] at this
        rw [this, Bool.true_and])
      go_wp2_with (first | (go_at_call 158; (with_reducible refine Calls.mono (refQueue_ (l := ms)) ?_); rintro e wb ⟨rfl, hb⟩))
      go_ret
      exact ⟨by rw [HT.out]; rfl, belL⟩
theorem refCuts0_ {A : Option Addr} {c : Nat} {w : World} :
    Calls Tryz.prog 115 #[.slice A 0 c] w fun e w' => e = .returned (.bool true) ∧ BelL w w' := by
  go_enter Tryz.func115, Tryz.ntmps115
  go_wp2
  go_loopg [3] 0 (fun kq v3 w' => v3 = .int .i64 0 ∧ BelL w w')
  case atStart => exact ⟨rfl, belL⟩
  case round =>
    obtain ⟨rfl, hbr⟩ := hrel
    go_wp2
    go_ret
    exact ⟨rfl, belL⟩
end Go.Proofs.YtljipbmmgcccnaaGreat.T
end
section
namespace Go.Proofs.YtljipbmmgcccnaaGreat.T
open Go.RowKit Go.Proofs.YtljipbmmgcccnaaGreatW.PrintWords Go.Proofs.YtljipbmmgcccnaaGreatW.PrintLast Go.Proofs.YtljipbmmgcccnaaGreatW.PrintMore
attribute [local go_sem] cell_tc frozen_tc max2_int min2_int
attribute [local go_sem ↓] Go.wp_at_zero Go.wp_at_succ
set_option linter.unusedVariables false
set_option linter.unusedSimpArgs false
set_option synthInstance.maxHeartbeats 400000
set_option synthInstance.maxSize 512
section
variable {P : Program} {ops : Array Oper} {Q : Exit → Act → World → Prop} {S : World → Prop}
def lexH (P : Program) (ops : Array Oper) (S : World → Prop) (Q : Exit → Act → World → Prop) : List Oper → Nat → Array Bool → Act → World → Prop
  | [], _, _, a, w => Q .normal a w
  | o :: rest, k, listed, a, w =>
    if Region.wanted o (yielded ops a.tmps) = true then
      (∃ v, (∀ w', S w' → (execOp a.eval o).run P w' = .ok (.value v) w') ∧ lexH P ops S Q rest (k + 1) (listed.setIfInBounds k true) (a.put o.dst v) w) ∨
      (Region.ready .any ops listed = [k] ∧ ∀ K : Act → World → Prop, (∀ a' w', S w' → lexH P ops S Q rest (k + 1) (listed.setIfInBounds k true) a' w' → K a' w') → o.wp P a w K Q)
    else lexH P ops S Q rest (k + 1) (listed.setIfInBounds k true) (a.put o.dst undef) w
structure LexW (P : Program) (ops : Array Oper) (S : World → Prop) (Q : Exit → Act → World → Prop) (l : List Oper) (k : Nat) (listed : Array Bool) (a : Act) (w : World) : Prop where out : lexH P ops S Q l k listed a w
theorem lexH_skip {o : Oper} {rest : List Oper} {k : Nat} {listed : Array Bool} {a : Act} {w : World} (hw : Region.wanted o (yielded ops a.tmps) = false) (h : LexW P ops S Q rest (k + 1) (listed.setIfInBounds k true) (a.put o.dst undef) w) : LexW P ops S Q (o :: rest) k listed a w := by
  refine ⟨?_⟩
  unfold lexH
  rw [if_neg (by rw [hw]; exact Bool.false_ne_true)]
  exact h.out
theorem lexH_take {o : Oper} {rest : List Oper} {k : Nat} {listed : Array Bool} {a : Act} {w : World} {v : Value} (hw : Region.wanted o (yielded ops a.tmps) = true) (hv : ∀ w', S w' → (execOp a.eval o).run P w' = .ok (.value v) w') (h : LexW P ops S Q rest (k + 1) (listed.setIfInBounds k true) (a.put o.dst v) w) : LexW P ops S Q (o :: rest) k listed a w := by
  refine ⟨?_⟩
  unfold lexH
  rw [if_pos hw]
  exact .inl ⟨v, hv, h.out⟩
theorem lexH_call {o : Oper} {rest : List Oper} {k : Nat} {listed : Array Bool} {a : Act} {w : World} (hw : Region.wanted o (yielded ops a.tmps) = true) (hr : Region.ready .any ops listed = [k]) (h : ∀ K : Act → World → Prop, Shut (∀ a' w', S w' → LexW P ops S Q rest (k + 1) (listed.setIfInBounds k true) a' w' → K a' w') → o.wp P a w K Q) : LexW P ops S Q (o :: rest) k listed a w := by
  refine ⟨?_⟩
  unfold lexH
  rw [if_pos hw]
  exact .inr ⟨hr, fun K hK => h K fun a' w' hS hl => hK a' w' hS hl.out⟩
theorem lexH_nil {k : Nat} {listed : Array Bool} {a : Act} {w : World} (h : Q .normal a w) : LexW P ops S (NoPanic Q) [] k listed a w := ⟨NoPanic.normal h⟩
theorem lexH_any (hs : Region.noSelect ops = true) (hQ : ∀ c a d v w, Q (.panic c) (a.put d v) w → Q (.panic c) a w) : ∀ (l : List Oper) (k : Nat) (listed : Array Bool) (a : Act) (w : World), (∀ j : Nat, l[j]? = ops[k + j]?) →
    Region.lexFrom .any ops l.length k listed = true → S w → lexH P ops S Q l k listed a w → wpAnyH P .any ops Q S l.length listed a w
  | [], _, _, _, _, _, hB, _, h => wpAnyH_done (by simpa [Region.lexFrom] using hB) h _
  | o :: l, k, listed, a, w, hl, hB, hS, h => by
    have h0 : ops[k]? = some o := by simpa using (hl 0).symm
    have hl2 : ∀ j : Nat, l[j]? = ops[k + 1 + j]? := fun j => by have := hl (j + 1); simpa [Nat.add_assoc, Nat.add_comm 1 j] using this
    simp only [List.length_cons, Region.lexFrom, Bool.and_eq_true] at hB
    obtain ⟨⟨hr, hf⟩, hB'⟩ := hB
    unfold lexH at h
    by_cases hw : Region.wanted o (yielded ops a.tmps) = true
    · rw [if_pos hw] at h
      rcases h with ⟨v, hv, h⟩ | ⟨hready, h⟩
      · exact wpAnyH_take h0 hs hf hr (fun c a w => hQ c a _ _ w) (.inl ⟨hw, hv⟩) hS (lexH_any hs hQ l (k + 1) _ _ w hl2 hB' hS h)
      · refine wpAnyH_ready hready (by simp) (AllReadyH.cons h0 (fun K hK => ?_) AllReadyH.nil)
        rw [if_pos hw]
        exact h K fun a' w' hS' h' => hK.out a' w' hS' fun _ => lexH_any hs hQ l (k + 1) _ a' w' hl2 hB' hS' h'
    · rw [if_neg hw] at h
      exact wpAnyH_take h0 hs hf hr (fun c a w => hQ c a _ _ w) (.inr ⟨by simpa using hw, rfl⟩) hS (lexH_any hs hQ l (k + 1) _ _ w hl2 hB' hS h)
theorem wp_region_lex {id : Nat} {Q : Exit → Act → World → Prop} {a : Act} {w : World} {l : List Oper} (hm : P.follows .mixedOrders = true) (hB : Region.lexB .any l.toArray = true) (hS : S w.drew)
    (h : LexW P l.toArray S (NoPanic Q) l 0 (Array.replicate l.length false) a w.drew) : (Code.region id l.toArray true).wp P Q a w := by
  refine wp_region_noPanic (wp_region_held_drew (S := S) hm hS fun hS2 => ?_)
  simp only [Region.lexB, Bool.and_eq_true] at hB
  have hl : l.toArray.size = l.length := by simp
  have h1 := lexH_any (P := P) (Q := NoPanic Q) (S := S) hB.1 (fun _ _ _ _ _ h => h) l 0 (Array.replicate l.length false) a w.drew (fun j => by simp) (by simpa [hl] using hB.2) hS2 h.out
  rw [hl]
  exact h1
theorem box_wp {o : Oper} {a : Act} {W : World} {K : Act → World → Prop} {N : Tmp} (_hd : o.dst = some N) {cs : Array Value} {t : TypeId}
    (hrun : (execOp a.eval o).run P W = .ok (.value (.pointer (some ⟨W.heap.size, 0, none⟩))) (W.alloc (.cells cs t (0, 0))))
    (h : ∀ g w1, BlkL w1 g cs t → BelL W w1 → GEL W g → K (a.put o.dst (.pointer (some ⟨g, 0, none⟩))) w1) : o.wp P a W K Q := by
  unfold Oper.wp
  rw [hrun]
  exact h _ _ ⟨blk_new W _⟩ ⟨below_alloc (Below.refl _ _) _⟩ ⟨Nat.le_refl _⟩
structure LexR (P : Program) (ops : Array Oper) (S : World → Prop) (Q : Exit → Act → World → Prop) (fuel : Nat) (listed : Array Bool) (a : Act) (w : World) : Prop where out : wpAnyH P .any ops (NoPanic Q) S fuel listed a w
theorem lexR_take {i fuel : Nat} {oi : Oper} {v : Value} {listed : Array Bool} {a : Act} {w : World} (hi : ops[i]? = some oi) (hs : Region.noSelect ops = true) (hf : Region.free .any ops listed i = true) (hr : (Region.ready .any ops listed).contains i = true)
    (hw : Region.wanted oi (yielded ops a.tmps) = true) (hS : S w) (hv : ∀ w', S w' → (execOp a.eval oi).run P w' = .ok (.value v) w') (h : LexR P ops S Q fuel (listed.setIfInBounds i true) (a.put oi.dst v) w) : LexR P ops S Q (fuel + 1) listed a w :=
  ⟨wpAnyH_take hi hs hf hr (fun _ _ _ h => h) (.inl ⟨hw, hv⟩) hS h.out⟩
theorem lexR_one {i fuel : Nat} {o : Oper} {listed : Array Bool} {a : Act} {w : World} (hr : Region.ready .any ops listed = [i]) (ho : ops[i]? = some o) (hw : Region.wanted o (yielded ops a.tmps) = true)
    (h : ∀ K : Act → World → Prop, Shut (∀ a' w', S w' → LexR P ops S Q fuel (listed.setIfInBounds i true) a' w' → K a' w') → o.wp P a w K (NoPanic Q)) : LexR P ops S Q (fuel + 1) listed a w :=
  ⟨wpAnyH_ready hr (by simp) (AllReadyH.cons ho (fun K' hK => by rw [if_pos hw]; exact h K' fun a' w' hS hl => hK.out a' w' hS fun _ => hl.out) AllReadyH.nil)⟩
theorem lexR_two {i j fuel : Nat} {o o2 : Oper} {listed : Array Bool} {a : Act} {w : World} (hr : Region.ready .any ops listed = [i, j]) (ho : ops[i]? = some o) (ho2 : ops[j]? = some o2) (hw : Region.wanted o (yielded ops a.tmps) = true) (hw2 : Region.wanted o2 (yielded ops a.tmps) = true)
    (h : ∀ K : Act → World → Prop, Shut (∀ a' w', S w' → LexR P ops S Q fuel (listed.setIfInBounds i true) a' w' → K a' w') → o.wp P a w K (NoPanic Q))
    (h2 : ∀ K : Act → World → Prop, Shut (∀ a' w', S w' → LexR P ops S Q fuel (listed.setIfInBounds j true) a' w' → K a' w') → o2.wp P a w K (NoPanic Q)) : LexR P ops S Q (fuel + 1) listed a w :=
  ⟨wpAnyH_ready hr (by simp) (AllReadyH.cons ho (fun K' hK => by rw [if_pos hw]; exact h K' fun a' w' hS hl => hK.out a' w' hS fun _ => hl.out) (AllReadyH.cons ho2 (fun K' hK => by rw [if_pos hw2]; exact h2 K' fun a' w' hS hl => hK.out a' w' hS fun _ => hl.out) AllReadyH.nil))⟩
theorem lexR_done {listed : Array Bool} {a : Act} {w : World} {fuel : Nat} (hr : Region.ready .any ops listed = []) (h : Q .normal a w) : LexR P ops S Q fuel listed a w := ⟨wpAnyH_done hr (NoPanic.normal h) fuel⟩
theorem wp_region_any_lex {id : Nat} {Q : Exit → Act → World → Prop} {a : Act} {w : World} {l : List Oper} (n : Nat) (hn : l.toArray.size = n) (hm : P.follows .mixedOrders = true) (hS : S w.drew)
    (h : LexR P l.toArray S Q n (Array.replicate n false) a w.drew) : (Code.region id l.toArray true).wp P Q a w := by
  subst hn
  exact wp_region_noPanic (wp_region_held_drew (S := S) hm hS fun _ => h.out)
end
end Go.Proofs.YtljipbmmgcccnaaGreat.T
end
section
namespace Go.Proofs.YtljipbmmgcccnaaGreat.T
open Go.RowKit Go.Proofs.YtljipbmmgcccnaaGreatW.PrintWords Go.Proofs.YtljipbmmgcccnaaGreatW.PrintLast Go.Proofs.YtljipbmmgcccnaaGreatW.PrintMore
attribute [local go_sem] cell_tc frozen_tc max2_int min2_int
attribute [local go_sem ↓] Go.wp_at_zero Go.wp_at_succ
set_option linter.unusedVariables false
set_option linter.unusedSimpArgs false
set_option synthInstance.maxHeartbeats 400000
set_option synthInstance.maxSize 512
attribute [local go_sem] cell_tc2
attribute [local go_sem high] eqA46 eqA98 eqA77 eqA48
def nodesFit (l : List S40) : Prop := ∀ x ∈ l, x.f1.f1.length * 16 ≤ 140737488351232 ∧ nodeSz x ≤ 1000000000000000
def refAt (ns : List S40) (i : Nat) : Bool := nodeB (ns.getD i z40) && ((decide (i = 0) || decide ((ns.getD (i - 1) z40).f1.f0 < (ns.getD i z40).f1.f0)) && ((idsOf (ns.getD i z40).f1.f1).all (isNode ns) && (ns.getD i z40).f1.f2.all (isNode ns)))
theorem world_split (ns : List S40) (ms : List S126) : mayB ns ms = ((List.range ns.length).all (refAt ns) && (decide (1 ≤ ns.length) && (decide (ns.length ≤ 8) && (ms.all (packB ns) && queueB ms)))) := by
  rw [Bool.eq_iff_iff, mayB_iff]
  simp only [Bool.and_eq_true, List.all_eq_true, List.mem_range, decide_eq_true_eq]
  have hp : (∀ m ∈ ms, ∀ y ∈ namedM1 m, isNode ns y = true) ↔ ∀ m ∈ ms, packB ns m = true := by
    refine forall_congr' fun m => forall_congr' fun _ => ?_
    unfold namedM1 packB
    simp only [List.mem_append, List.mem_cons, List.not_mem_nil, or_false, Bool.and_eq_true, List.all_eq_true]
    constructor
    · intro h
      exact ⟨h _ (.inl (.inl rfl)), h _ (.inl (.inr rfl)), fun y hy => h y (.inr hy)⟩
    · rintro ⟨h1, h2, h3⟩ y ((rfl | rfl) | hy)
      · exact h1
      · exact h2
      · exact h3 y hy
  rw [hp]
  constructor
  · rintro ⟨h1, h2, h3, h4⟩
    refine ⟨fun i hi => ?_, (nodesB_len h1).1, (nodesB_len h1).2, h4, h2⟩
    obtain ⟨a1, a2⟩ := nodesB_at h1 i hi
    unfold refAt
    rw [getD40 hi, a1]
    have h5 := h3 ns[i] (List.getElem_mem hi)
    unfold namedN1 at h5
    have h6 : (idsOf ns[i].f1.f1).all (isNode ns) = true := List.all_eq_true.2 fun y hy => h5 y (List.mem_append_left _ hy)
    have h7 : ns[i].f1.f2.all (isNode ns) = true := List.all_eq_true.2 fun y hy => h5 y (List.mem_append_right _ hy)
    rw [h6, h7]
    rcases a2 with a2 | a2
    · simp [a2]
    · rw [decide_eq_true a2]; simp
  · rintro ⟨h1, h2, h3, h4, h5⟩
    have hat : ∀ (i : Nat) (hi : i < ns.length), nodeB ns[i] = true ∧ (i = 0 ∨ (ns.getD (i - 1) z40).f1.f0 < ns[i].f1.f0) ∧ ∀ y ∈ namedN1 ns[i], isNode ns y = true := by
      intro i hi
      have h := h1 i hi
      unfold refAt at h
      rw [getD40 hi] at h
      simp only [Bool.and_eq_true, Bool.or_eq_true, decide_eq_true_eq, List.all_eq_true] at h
      refine ⟨h.1, h.2.1, fun y hy => ?_⟩
      rcases List.mem_append.1 hy with hy | hy
      · exact h.2.2.1 y hy
      · exact h.2.2.2 y hy
    refine ⟨?_, h5, fun x hx => ?_, h4⟩
    · unfold nodesB
      simp only [Bool.and_eq_true, List.all_eq_true, List.mem_range, decide_eq_true_eq]
      exact ⟨fun i hi => nodeAt_yes hi (hat i hi).1 (hat i hi).2.1, h2, h3⟩
    · obtain ⟨i, hi, rfl⟩ := List.getElem_of_mem hx
      exact (hat i hi).2.2
theorem refAt_stop {ns : List S40} {ms : List S126} {i : Nat} (h : i < ns.length) (hp : refAt ns i = false) : mayB ns ms = false := by
  rw [world_split, range_no h hp]
  rfl
set_option maxRecDepth 100000 in
set_option maxHeartbeats 16000000 in
theorem refWorld_ {A B C : Option Addr} {n c d k f : Nat} {ns : List S40} {ps : List S126} {w : World} [h : Sr k40 w A n c ns] [q : Sr k126 w C k f ps] (hz : nodesFit ns) :
    Calls Tryz.prog 62 #[.agg #[.slice A n c, .slice B 0 d, .slice C k f]] w fun e w' => e = .returned (.bool (mayB ns ps)) ∧ BelL w w' := by
  obtain rfl := h.len
  obtain rfl := q.len
  have HS := sr_l h
  have HQ := sr_l q
  have hlen : ns.length ≤ 9223372036854775807 := h.C.2.1
  have HZ := Aside0.mk hz
  clear h q hz
  go_enter Tryz.func62, Tryz.ntmps62
  go_wp2_with (first | (with_reducible refine gate_dst (N := 1) rfl ?_; refine box_tc rfl (N := 1) rfl (cs := #[.slice A ns.length c, .slice B 0 d, .slice C ps.length f]) (t := 61) ?hr ?_; (case hr => first | (go_simp; done) | (go_simp; rfl)); intro g1 wg1 _ _ _))
  refine wp_letter fun wl hbl => ?_
  have B1 : BlkL wl g1 #[.slice A ns.length c, .slice B 0 d, .slice C ps.length f] 61 := blkL
  have S1 : SrL k40 wl A ns.length c ns := sr_l inferInstance
  have S2 : SrL k126 wl C ps.length f ps := sr_l inferInstance
  have hwl : BelL w wl := belL
  go_loopg [3, 4] ns.length (fun kq v3 v4 w' => ∃ i : Nat, v3 = .int .i64 i ∧ i ≤ ns.length ∧ kq = ns.length - i ∧ Aside0 ((List.range i).all (refAt ns) = true) ∧ BelL wl w')
  case atStart => exact ⟨0, rfl, Nat.zero_le _, rfl, ⟨by simp⟩, belL⟩
  case round =>
    obtain ⟨i, rfl, hi, rfl, HA, hbr⟩ := hrel
    by_cases hlt : i < ns.length
    · obtain ⟨ad, X2, y2, X3, y3, X4, y4, X5, y5, rfl, x0, x1, x2, x3, x4, x5, r2, r3, r4, r5⟩ := el_T40 (W := wr) (A := A) (n := ns.length) (c := c) (l := ns) i hlt
      have HZI := Aside0.mk (show ns[i].f1.f1.length * 16 ≤ 140737488351232 ∧ ns[i].f1.f1.length + ns[i].f1.f2.length + ns[i].f2.length + ns[i].f3.length ≤ 1000000000000000 from HZ.out ns[i] (List.getElem_mem hlt))
      cases h1 : nodeB ⟨ns[i].f0, ⟨ns[i].f1.f0, ns[i].f1.f1, ns[i].f1.f2⟩, ns[i].f2, ns[i].f3⟩
      · have HF := Aside0.mk (show mayB ns ps = false from refAt_stop hlt (by unfold refAt; rw [getD40 hlt]; rw [show nodeB ns[i] = false from h1]; rfl))
        go_upto_region 5 with (first | (with_reducible refine gate_dst (N := 4) rfl ?_; refine box_tc rfl (N := 4) rfl (cs := #[.bool false, .int .i64 0, .slice none 0 0, .slice none 0 0, .slice none 0 0, .slice none 0 0]) (t := 40) ?hr ?_; (case hr => first | (go_simp; done) | (go_simp; rfl)); intro g4 wg4 _ _ _))
        refine wp_letter fun w6 hb6 => ?_
        refine wp_region_lex (S := fun w_ => BelL w6 w_) (by kernel_rfl) (by kernel_rfl) belL ?_
        (refine lexH_take (v := ?_) (by kernel_rfl) ?_ ?_; rotate_left; (focus (intro wq (hSw : BelL w6 wq); (first | (go_simp; done) | (go_simp; with_reducible rfl)); done)); (try simp only [Act.put, List.setIfInBounds_toArray, List.set_cons_zero, List.set_cons_succ]))
        (refine lexH_call (by kernel_rfl) (by kernel_rfl) (fun K hK => ?_); go_simp; (go_at_call 112; (with_reducible refine Calls.mono (refNode_ (n := ns[i].f1.f1.length) (m := ns[i].f1.f2.length) (ni := ns[i].f2.length) (nl := ns[i].f3.length) (ps := ns[i].f1.f1) (xs := ns[i].f1.f2) (is := ns[i].f2) (ls := ns[i].f3) HZI.out.1 HZI.out.2) ?_); rw [h1]; rintro e wb ⟨rfl, hb⟩); refine hK.out _ _ belL ?_; clear hK K; (try simp only [Act.put, List.setIfInBounds_toArray, List.set_cons_zero, List.set_cons_succ]))
        iterate 2 (refine lexH_take (v := ?_) (by kernel_rfl) ?_ ?_; rotate_left; (focus (intro wq (hSw : BelL w6 wq); (first | (go_simp; done) | (go_simp; with_reducible rfl)); done)); (try simp only [Act.put, List.setIfInBounds_toArray, List.set_cons_zero, List.set_cons_succ]))
        iterate 16 (refine lexH_skip (by kernel_rfl) ?_; (try simp only [Act.put, List.setIfInBounds_toArray, List.set_cons_zero, List.set_cons_succ]))
        iterate 2 (refine lexH_take (v := ?_) (by kernel_rfl) ?_ ?_; rotate_left; (focus (intro wq (hSw : BelL w6 wq); (first | (go_simp; done) | (go_simp; with_reducible rfl)); done)); (try simp only [Act.put, List.setIfInBounds_toArray, List.set_cons_zero, List.set_cons_succ]))
        iterate 8 (refine lexH_skip (by kernel_rfl) ?_; (try simp only [Act.put, List.setIfInBounds_toArray, List.set_cons_zero, List.set_cons_succ]))
        iterate 2 (refine lexH_take (v := ?_) (by kernel_rfl) ?_ ?_; rotate_left; (focus (intro wq (hSw : BelL w6 wq); (first | (go_simp; done) | (go_simp; with_reducible rfl)); done)); (try simp only [Act.put, List.setIfInBounds_toArray, List.set_cons_zero, List.set_cons_succ]))
        iterate 7 (refine lexH_skip (by kernel_rfl) ?_; (try simp only [Act.put, List.setIfInBounds_toArray, List.set_cons_zero, List.set_cons_succ]))
        (refine lexH_take (v := ?_) (by kernel_rfl) ?_ ?_; rotate_left; (focus (intro wq (hSw : BelL w6 wq); (first | (go_simp; done) | (go_simp; with_reducible rfl)); done)); (try simp only [Act.put, List.setIfInBounds_toArray, List.set_cons_zero, List.set_cons_succ]))
        refine lexH_nil ?_
        go_wp2
        go_ret
        exact ⟨by rw [HF.out]; rfl, belL⟩

      by_cases h0 : i = 0
      · have hgt : decide ((0 : Int) < (i : Int)) = false := decide_eq_false (by omega)
        have hgn : decide (0 < i) = false := decide_eq_false (by omega)
        have H0 := Aside0.mk (decide_eq_true h0)
        clear h0
        cases h4 : (idsOf ns[i].f1.f1).all (isNode ns)
        · have HF := Aside0.mk (show mayB ns ps = false from refAt_stop hlt (by unfold refAt; rw [getD40 hlt]; rw [h4]; simp))
          go_upto_region 5 with (first | (with_reducible refine gate_dst (N := 4) rfl ?_; refine box_tc rfl (N := 4) rfl (cs := #[.bool false, .int .i64 0, .slice none 0 0, .slice none 0 0, .slice none 0 0, .slice none 0 0]) (t := 40) ?hr ?_; (case hr => first | (go_simp; done) | (go_simp; rfl)); intro g4 wg4 _ _ _))
          refine wp_letter fun w6 hb6 => ?_
          refine wp_region_lex (S := fun w_ => BelL w6 w_) (by kernel_rfl) (by kernel_rfl) belL ?_
          (refine lexH_take (v := ?_) (by kernel_rfl) ?_ ?_; rotate_left; (focus (intro wq (hSw : BelL w6 wq); (first | (go_simp; done) | (go_simp; with_reducible rfl)); done)); (try simp only [Act.put, List.setIfInBounds_toArray, List.set_cons_zero, List.set_cons_succ]))
          (refine lexH_call (by kernel_rfl) (by kernel_rfl) (fun K hK => ?_); go_simp; (go_at_call 112; (with_reducible refine Calls.mono (refNode_ (n := ns[i].f1.f1.length) (m := ns[i].f1.f2.length) (ni := ns[i].f2.length) (nl := ns[i].f3.length) (ps := ns[i].f1.f1) (xs := ns[i].f1.f2) (is := ns[i].f2) (ls := ns[i].f3) HZI.out.1 HZI.out.2) ?_); rw [h1]; rintro e wb ⟨rfl, hb⟩); refine hK.out _ _ belL ?_; clear hK K; (try simp only [Act.put, List.setIfInBounds_toArray, List.set_cons_zero, List.set_cons_succ]))
          iterate 5 (refine lexH_take (v := ?_) (by kernel_rfl) ?_ ?_; rotate_left; (focus (intro wq (hSw : BelL w6 wq); (first | (go_simp; done) | (go_simp; with_reducible rfl)); done)); (try simp only [Act.put, List.setIfInBounds_toArray, List.set_cons_zero, List.set_cons_succ]))
          iterate 12 (refine lexH_skip (by kernel_rfl) ?_; (try simp only [Act.put, List.setIfInBounds_toArray, List.set_cons_zero, List.set_cons_succ]))
          iterate 8 (refine lexH_take (v := ?_) (by kernel_rfl) ?_ ?_; rotate_left; (focus (intro wq (hSw : BelL w6 wq); (first | (go_simp; done) | (go_simp; with_reducible rfl)); done)); (try simp only [Act.put, List.setIfInBounds_toArray, List.set_cons_zero, List.set_cons_succ]))
          (refine lexH_call (by kernel_rfl) (by kernel_rfl) (fun K hK => ?_); go_simp; (go_at_call 114; (with_reducible refine Calls.mono (refNames_ (ps := ns[i].f1.f1) HZI.out.1) ?_); rintro e wn ⟨An, cn, rfl, hFn, hbn⟩; have hln : (idsOf ns[i].f1.f1).length = ns[i].f1.f1.length := idsOf_len _; have hFn2 : SrL kI wn An ns[i].f1.f1.length cn (idsOf ns[i].f1.f1) := sr_l inferInstance); refine hK.out _ _ belL ?_; clear hK K; (try simp only [Act.put, List.setIfInBounds_toArray, List.set_cons_zero, List.set_cons_succ]))
          (refine lexH_call (by kernel_rfl) (by kernel_rfl) (fun K hK => ?_); go_simp; (go_at_call 113; (with_reducible refine Calls.mono (refAll_ (l := ns) (xs := idsOf ns[i].f1.f1) (m := ns[i].f1.f1.length)) ?_); rw [h4]; rintro e wk ⟨rfl, hbk⟩); refine hK.out _ _ belL ?_; clear hK K; (try simp only [Act.put, List.setIfInBounds_toArray, List.set_cons_zero, List.set_cons_succ]))
          iterate 3 (refine lexH_take (v := ?_) (by kernel_rfl) ?_ ?_; rotate_left; (focus (intro wq (hSw : BelL w6 wq); (first | (go_simp; done) | (go_simp; with_reducible rfl)); done)); (try simp only [Act.put, List.setIfInBounds_toArray, List.set_cons_zero, List.set_cons_succ]))
          iterate 7 (refine lexH_skip (by kernel_rfl) ?_; (try simp only [Act.put, List.setIfInBounds_toArray, List.set_cons_zero, List.set_cons_succ]))
          (refine lexH_take (v := ?_) (by kernel_rfl) ?_ ?_; rotate_left; (focus (intro wq (hSw : BelL w6 wq); (first | (go_simp; done) | (go_simp; with_reducible rfl)); done)); (try simp only [Act.put, List.setIfInBounds_toArray, List.set_cons_zero, List.set_cons_succ]))
          refine lexH_nil ?_
          go_wp2
          go_ret
          exact ⟨by rw [HF.out]; rfl, belL⟩
        cases h5 : ns[i].f1.f2.all (isNode ns)
        · have HF := Aside0.mk (show mayB ns ps = false from refAt_stop hlt (by unfold refAt; rw [getD40 hlt]; rw [h4, h5]; simp))
          go_upto_region 5 with (first | (with_reducible refine gate_dst (N := 4) rfl ?_; refine box_tc rfl (N := 4) rfl (cs := #[.bool false, .int .i64 0, .slice none 0 0, .slice none 0 0, .slice none 0 0, .slice none 0 0]) (t := 40) ?hr ?_; (case hr => first | (go_simp; done) | (go_simp; rfl)); intro g4 wg4 _ _ _))
          refine wp_letter fun w6 hb6 => ?_
          refine wp_region_lex (S := fun w_ => BelL w6 w_) (by kernel_rfl) (by kernel_rfl) belL ?_
          (refine lexH_take (v := ?_) (by kernel_rfl) ?_ ?_; rotate_left; (focus (intro wq (hSw : BelL w6 wq); (first | (go_simp; done) | (go_simp; with_reducible rfl)); done)); (try simp only [Act.put, List.setIfInBounds_toArray, List.set_cons_zero, List.set_cons_succ]))
          (refine lexH_call (by kernel_rfl) (by kernel_rfl) (fun K hK => ?_); go_simp; (go_at_call 112; (with_reducible refine Calls.mono (refNode_ (n := ns[i].f1.f1.length) (m := ns[i].f1.f2.length) (ni := ns[i].f2.length) (nl := ns[i].f3.length) (ps := ns[i].f1.f1) (xs := ns[i].f1.f2) (is := ns[i].f2) (ls := ns[i].f3) HZI.out.1 HZI.out.2) ?_); rw [h1]; rintro e wb ⟨rfl, hb⟩); refine hK.out _ _ belL ?_; clear hK K; (try simp only [Act.put, List.setIfInBounds_toArray, List.set_cons_zero, List.set_cons_succ]))
          iterate 5 (refine lexH_take (v := ?_) (by kernel_rfl) ?_ ?_; rotate_left; (focus (intro wq (hSw : BelL w6 wq); (first | (go_simp; done) | (go_simp; with_reducible rfl)); done)); (try simp only [Act.put, List.setIfInBounds_toArray, List.set_cons_zero, List.set_cons_succ]))
          iterate 12 (refine lexH_skip (by kernel_rfl) ?_; (try simp only [Act.put, List.setIfInBounds_toArray, List.set_cons_zero, List.set_cons_succ]))
          iterate 8 (refine lexH_take (v := ?_) (by kernel_rfl) ?_ ?_; rotate_left; (focus (intro wq (hSw : BelL w6 wq); (first | (go_simp; done) | (go_simp; with_reducible rfl)); done)); (try simp only [Act.put, List.setIfInBounds_toArray, List.set_cons_zero, List.set_cons_succ]))
          (refine lexH_call (by kernel_rfl) (by kernel_rfl) (fun K hK => ?_); go_simp; (go_at_call 114; (with_reducible refine Calls.mono (refNames_ (ps := ns[i].f1.f1) HZI.out.1) ?_); rintro e wn ⟨An, cn, rfl, hFn, hbn⟩; have hln : (idsOf ns[i].f1.f1).length = ns[i].f1.f1.length := idsOf_len _; have hFn2 : SrL kI wn An ns[i].f1.f1.length cn (idsOf ns[i].f1.f1) := sr_l inferInstance); refine hK.out _ _ belL ?_; clear hK K; (try simp only [Act.put, List.setIfInBounds_toArray, List.set_cons_zero, List.set_cons_succ]))
          (refine lexH_call (by kernel_rfl) (by kernel_rfl) (fun K hK => ?_); go_simp; (go_at_call 113; (with_reducible refine Calls.mono (refAll_ (l := ns) (xs := idsOf ns[i].f1.f1) (m := ns[i].f1.f1.length)) ?_); rw [h4]; rintro e wk ⟨rfl, hbk⟩); refine hK.out _ _ belL ?_; clear hK K; (try simp only [Act.put, List.setIfInBounds_toArray, List.set_cons_zero, List.set_cons_succ]))
          iterate 8 (refine lexH_take (v := ?_) (by kernel_rfl) ?_ ?_; rotate_left; (focus (intro wq (hSw : BelL w6 wq); (first | (go_simp; done) | (go_simp; with_reducible rfl)); done)); (try simp only [Act.put, List.setIfInBounds_toArray, List.set_cons_zero, List.set_cons_succ]))
          (refine lexH_call (by kernel_rfl) (by kernel_rfl) (fun K hK => ?_); go_simp; (go_at_call 113; (with_reducible refine Calls.mono (refAll_ (l := ns) (xs := ns[i].f1.f2)) ?_); rw [h5]; rintro e wq ⟨rfl, hbq⟩); refine hK.out _ _ belL ?_; clear hK K; (try simp only [Act.put, List.setIfInBounds_toArray, List.set_cons_zero, List.set_cons_succ]))
          iterate 2 (refine lexH_take (v := ?_) (by kernel_rfl) ?_ ?_; rotate_left; (focus (intro wq (hSw : BelL w6 wq); (first | (go_simp; done) | (go_simp; with_reducible rfl)); done)); (try simp only [Act.put, List.setIfInBounds_toArray, List.set_cons_zero, List.set_cons_succ]))
          refine lexH_nil ?_
          go_wp2
          go_ret
          exact ⟨by rw [HF.out]; rfl, belL⟩
        · have HT := Aside0.mk (range_all HA.out (show refAt ns i = true by unfold refAt; rw [getD40 hlt]; rw [show nodeB ns[i] = true from h1, h4, h5, H0.out]; simp))
          go_upto_region 5 with (first | (with_reducible refine gate_dst (N := 4) rfl ?_; refine box_tc rfl (N := 4) rfl (cs := #[.bool false, .int .i64 0, .slice none 0 0, .slice none 0 0, .slice none 0 0, .slice none 0 0]) (t := 40) ?hr ?_; (case hr => first | (go_simp; done) | (go_simp; rfl)); intro g4 wg4 _ _ _))
          refine wp_letter fun w6 hb6 => ?_
          refine wp_region_lex (S := fun w_ => BelL w6 w_) (by kernel_rfl) (by kernel_rfl) belL ?_
          (refine lexH_take (v := ?_) (by kernel_rfl) ?_ ?_; rotate_left; (focus (intro wq (hSw : BelL w6 wq); (first | (go_simp; done) | (go_simp; with_reducible rfl)); done)); (try simp only [Act.put, List.setIfInBounds_toArray, List.set_cons_zero, List.set_cons_succ]))
          (refine lexH_call (by kernel_rfl) (by kernel_rfl) (fun K hK => ?_); go_simp; (go_at_call 112; (with_reducible refine Calls.mono (refNode_ (n := ns[i].f1.f1.length) (m := ns[i].f1.f2.length) (ni := ns[i].f2.length) (nl := ns[i].f3.length) (ps := ns[i].f1.f1) (xs := ns[i].f1.f2) (is := ns[i].f2) (ls := ns[i].f3) HZI.out.1 HZI.out.2) ?_); rw [h1]; rintro e wb ⟨rfl, hb⟩); refine hK.out _ _ belL ?_; clear hK K; (try simp only [Act.put, List.setIfInBounds_toArray, List.set_cons_zero, List.set_cons_succ]))
          iterate 5 (refine lexH_take (v := ?_) (by kernel_rfl) ?_ ?_; rotate_left; (focus (intro wq (hSw : BelL w6 wq); (first | (go_simp; done) | (go_simp; with_reducible rfl)); done)); (try simp only [Act.put, List.setIfInBounds_toArray, List.set_cons_zero, List.set_cons_succ]))
          iterate 12 (refine lexH_skip (by kernel_rfl) ?_; (try simp only [Act.put, List.setIfInBounds_toArray, List.set_cons_zero, List.set_cons_succ]))
          iterate 8 (refine lexH_take (v := ?_) (by kernel_rfl) ?_ ?_; rotate_left; (focus (intro wq (hSw : BelL w6 wq); (first | (go_simp; done) | (go_simp; with_reducible rfl)); done)); (try simp only [Act.put, List.setIfInBounds_toArray, List.set_cons_zero, List.set_cons_succ]))
          (refine lexH_call (by kernel_rfl) (by kernel_rfl) (fun K hK => ?_); go_simp; (go_at_call 114; (with_reducible refine Calls.mono (refNames_ (ps := ns[i].f1.f1) HZI.out.1) ?_); rintro e wn ⟨An, cn, rfl, hFn, hbn⟩; have hln : (idsOf ns[i].f1.f1).length = ns[i].f1.f1.length := idsOf_len _; have hFn2 : SrL kI wn An ns[i].f1.f1.length cn (idsOf ns[i].f1.f1) := sr_l inferInstance); refine hK.out _ _ belL ?_; clear hK K; (try simp only [Act.put, List.setIfInBounds_toArray, List.set_cons_zero, List.set_cons_succ]))
          (refine lexH_call (by kernel_rfl) (by kernel_rfl) (fun K hK => ?_); go_simp; (go_at_call 113; (with_reducible refine Calls.mono (refAll_ (l := ns) (xs := idsOf ns[i].f1.f1) (m := ns[i].f1.f1.length)) ?_); rw [h4]; rintro e wk ⟨rfl, hbk⟩); refine hK.out _ _ belL ?_; clear hK K; (try simp only [Act.put, List.setIfInBounds_toArray, List.set_cons_zero, List.set_cons_succ]))
          iterate 8 (refine lexH_take (v := ?_) (by kernel_rfl) ?_ ?_; rotate_left; (focus (intro wq (hSw : BelL w6 wq); (first | (go_simp; done) | (go_simp; with_reducible rfl)); done)); (try simp only [Act.put, List.setIfInBounds_toArray, List.set_cons_zero, List.set_cons_succ]))
          (refine lexH_call (by kernel_rfl) (by kernel_rfl) (fun K hK => ?_); go_simp; (go_at_call 113; (with_reducible refine Calls.mono (refAll_ (l := ns) (xs := ns[i].f1.f2)) ?_); rw [h5]; rintro e wq ⟨rfl, hbq⟩); refine hK.out _ _ belL ?_; clear hK K; (try simp only [Act.put, List.setIfInBounds_toArray, List.set_cons_zero, List.set_cons_succ]))
          iterate 2 (refine lexH_take (v := ?_) (by kernel_rfl) ?_ ?_; rotate_left; (focus (intro wq (hSw : BelL w6 wq); (first | (go_simp; done) | (go_simp; with_reducible rfl)); done)); (try simp only [Act.put, List.setIfInBounds_toArray, List.set_cons_zero, List.set_cons_succ]))
          refine lexH_nil ?_
          go_wp2
          go_roundg (ns.length - (i + 1))
          case measure => omega
          case rel => exact ⟨i + 1, by go_num, by omega, rfl, HT, belL⟩
      · have hgt : decide ((0 : Int) < (i : Int)) = true := decide_eq_true (by omega)
        have hgn : decide (0 < i) = true := decide_eq_true (by omega)
        obtain ⟨ad', X2, y2, X3, y3, X4, y4, X5, y5, he, y0, y1, q2, q3, q4, q5, t2, t3, t4, t5⟩ := el_T40 (W := wr) (A := some ad) (n := ns.length) (c := c) (l := ns) (i - 1) (by omega)
        obtain rfl := Option.some.inj he
        clear q2 q3 q4 q5 t2 t3 t4 t5
        have e1 : (i : Int) - 1 = ((i - 1 : Nat) : Int) := by omega
        have e1w : IntKind.i64.wrap ((i - 1 : Nat) : Int) = ((i - 1 : Nat) : Int) := IntWalk.i64_in _ (by omega)
        have hj1 : i - 1 < ns.length := by omega
        have H0 := Aside0.mk (show ns.getD (i - 1) z40 = ns[i - 1] from getD40 hj1)
        cases h3 : decide (ns[i].f1.f0 ≤ ns[i - 1].f1.f0)
        · have H3 := Aside0.mk (show decide (ns[i - 1].f1.f0 < ns[i].f1.f0) = true from decide_eq_true (by have := of_decide_eq_false h3; omega))
          cases h4 : (idsOf ns[i].f1.f1).all (isNode ns)
          · have HF := Aside0.mk (show mayB ns ps = false from refAt_stop hlt (by unfold refAt; rw [getD40 hlt]; rw [h4]; simp))
            go_upto_region 5 with (first | (with_reducible refine gate_dst (N := 4) rfl ?_; refine box_tc rfl (N := 4) rfl (cs := #[.bool false, .int .i64 0, .slice none 0 0, .slice none 0 0, .slice none 0 0, .slice none 0 0]) (t := 40) ?hr ?_; (case hr => first | (go_simp; done) | (go_simp; rfl)); intro g4 wg4 _ _ _))
            refine wp_letter fun w6 hb6 => ?_
            refine wp_region_lex (S := fun w_ => BelL w6 w_) (by kernel_rfl) (by kernel_rfl) belL ?_
            (refine lexH_take (v := ?_) (by kernel_rfl) ?_ ?_; rotate_left; (focus (intro wq (hSw : BelL w6 wq); (first | (go_simp; done) | (go_simp; with_reducible rfl)); done)); (try simp only [Act.put, List.setIfInBounds_toArray, List.set_cons_zero, List.set_cons_succ]))
            (refine lexH_call (by kernel_rfl) (by kernel_rfl) (fun K hK => ?_); go_simp; (go_at_call 112; (with_reducible refine Calls.mono (refNode_ (n := ns[i].f1.f1.length) (m := ns[i].f1.f2.length) (ni := ns[i].f2.length) (nl := ns[i].f3.length) (ps := ns[i].f1.f1) (xs := ns[i].f1.f2) (is := ns[i].f2) (ls := ns[i].f3) HZI.out.1 HZI.out.2) ?_); rw [h1]; rintro e wb ⟨rfl, hb⟩); refine hK.out _ _ belL ?_; clear hK K; (try simp only [Act.put, List.setIfInBounds_toArray, List.set_cons_zero, List.set_cons_succ]))
            iterate 25 (refine lexH_take (v := ?_) (by kernel_rfl) ?_ ?_; rotate_left; (focus (intro wq (hSw : BelL w6 wq); (first | (go_simp; done) | (go_simp; with_reducible rfl)); done)); (try simp only [Act.put, List.setIfInBounds_toArray, List.set_cons_zero, List.set_cons_succ]))
            (refine lexH_call (by kernel_rfl) (by kernel_rfl) (fun K hK => ?_); go_simp; (go_at_call 114; (with_reducible refine Calls.mono (refNames_ (ps := ns[i].f1.f1) HZI.out.1) ?_); rintro e wn ⟨An, cn, rfl, hFn, hbn⟩; have hln : (idsOf ns[i].f1.f1).length = ns[i].f1.f1.length := idsOf_len _; have hFn2 : SrL kI wn An ns[i].f1.f1.length cn (idsOf ns[i].f1.f1) := sr_l inferInstance); refine hK.out _ _ belL ?_; clear hK K; (try simp only [Act.put, List.setIfInBounds_toArray, List.set_cons_zero, List.set_cons_succ]))
            (refine lexH_call (by kernel_rfl) (by kernel_rfl) (fun K hK => ?_); go_simp; (go_at_call 113; (with_reducible refine Calls.mono (refAll_ (l := ns) (xs := idsOf ns[i].f1.f1) (m := ns[i].f1.f1.length)) ?_); rw [h4]; rintro e wk ⟨rfl, hbk⟩); refine hK.out _ _ belL ?_; clear hK K; (try simp only [Act.put, List.setIfInBounds_toArray, List.set_cons_zero, List.set_cons_succ]))
            iterate 3 (refine lexH_take (v := ?_) (by kernel_rfl) ?_ ?_; rotate_left; (focus (intro wq (hSw : BelL w6 wq); (first | (go_simp; done) | (go_simp; with_reducible rfl)); done)); (try simp only [Act.put, List.setIfInBounds_toArray, List.set_cons_zero, List.set_cons_succ]))
            iterate 7 (refine lexH_skip (by kernel_rfl) ?_; (try simp only [Act.put, List.setIfInBounds_toArray, List.set_cons_zero, List.set_cons_succ]))
            (refine lexH_take (v := ?_) (by kernel_rfl) ?_ ?_; rotate_left; (focus (intro wq (hSw : BelL w6 wq); (first | (go_simp; done) | (go_simp; with_reducible rfl)); done)); (try simp only [Act.put, List.setIfInBounds_toArray, List.set_cons_zero, List.set_cons_succ]))
            refine lexH_nil ?_
            go_wp2
            go_ret
            exact ⟨by rw [HF.out]; rfl, belL⟩
          cases h5 : ns[i].f1.f2.all (isNode ns)
          · have HF := Aside0.mk (show mayB ns ps = false from refAt_stop hlt (by unfold refAt; rw [getD40 hlt]; rw [h4, h5]; simp))
            go_upto_region 5 with (first | (with_reducible refine gate_dst (N := 4) rfl ?_; refine box_tc rfl (N := 4) rfl (cs := #[.bool false, .int .i64 0, .slice none 0 0, .slice none 0 0, .slice none 0 0, .slice none 0 0]) (t := 40) ?hr ?_; (case hr => first | (go_simp; done) | (go_simp; rfl)); intro g4 wg4 _ _ _))
            refine wp_letter fun w6 hb6 => ?_
            refine wp_region_lex (S := fun w_ => BelL w6 w_) (by kernel_rfl) (by kernel_rfl) belL ?_
            (refine lexH_take (v := ?_) (by kernel_rfl) ?_ ?_; rotate_left; (focus (intro wq (hSw : BelL w6 wq); (first | (go_simp; done) | (go_simp; with_reducible rfl)); done)); (try simp only [Act.put, List.setIfInBounds_toArray, List.set_cons_zero, List.set_cons_succ]))
            (refine lexH_call (by kernel_rfl) (by kernel_rfl) (fun K hK => ?_); go_simp; (go_at_call 112; (with_reducible refine Calls.mono (refNode_ (n := ns[i].f1.f1.length) (m := ns[i].f1.f2.length) (ni := ns[i].f2.length) (nl := ns[i].f3.length) (ps := ns[i].f1.f1) (xs := ns[i].f1.f2) (is := ns[i].f2) (ls := ns[i].f3) HZI.out.1 HZI.out.2) ?_); rw [h1]; rintro e wb ⟨rfl, hb⟩); refine hK.out _ _ belL ?_; clear hK K; (try simp only [Act.put, List.setIfInBounds_toArray, List.set_cons_zero, List.set_cons_succ]))
            iterate 25 (refine lexH_take (v := ?_) (by kernel_rfl) ?_ ?_; rotate_left; (focus (intro wq (hSw : BelL w6 wq); (first | (go_simp; done) | (go_simp; with_reducible rfl)); done)); (try simp only [Act.put, List.setIfInBounds_toArray, List.set_cons_zero, List.set_cons_succ]))
            (refine lexH_call (by kernel_rfl) (by kernel_rfl) (fun K hK => ?_); go_simp; (go_at_call 114; (with_reducible refine Calls.mono (refNames_ (ps := ns[i].f1.f1) HZI.out.1) ?_); rintro e wn ⟨An, cn, rfl, hFn, hbn⟩; have hln : (idsOf ns[i].f1.f1).length = ns[i].f1.f1.length := idsOf_len _; have hFn2 : SrL kI wn An ns[i].f1.f1.length cn (idsOf ns[i].f1.f1) := sr_l inferInstance); refine hK.out _ _ belL ?_; clear hK K; (try simp only [Act.put, List.setIfInBounds_toArray, List.set_cons_zero, List.set_cons_succ]))
            (refine lexH_call (by kernel_rfl) (by kernel_rfl) (fun K hK => ?_); go_simp; (go_at_call 113; (with_reducible refine Calls.mono (refAll_ (l := ns) (xs := idsOf ns[i].f1.f1) (m := ns[i].f1.f1.length)) ?_); rw [h4]; rintro e wk ⟨rfl, hbk⟩); refine hK.out _ _ belL ?_; clear hK K; (try simp only [Act.put, List.setIfInBounds_toArray, List.set_cons_zero, List.set_cons_succ]))
            iterate 8 (refine lexH_take (v := ?_) (by kernel_rfl) ?_ ?_; rotate_left; (focus (intro wq (hSw : BelL w6 wq); (first | (go_simp; done) | (go_simp; with_reducible rfl)); done)); (try simp only [Act.put, List.setIfInBounds_toArray, List.set_cons_zero, List.set_cons_succ]))
            (refine lexH_call (by kernel_rfl) (by kernel_rfl) (fun K hK => ?_); go_simp; (go_at_call 113; (with_reducible refine Calls.mono (refAll_ (l := ns) (xs := ns[i].f1.f2)) ?_); rw [h5]; rintro e wq ⟨rfl, hbq⟩); refine hK.out _ _ belL ?_; clear hK K; (try simp only [Act.put, List.setIfInBounds_toArray, List.set_cons_zero, List.set_cons_succ]))
            iterate 2 (refine lexH_take (v := ?_) (by kernel_rfl) ?_ ?_; rotate_left; (focus (intro wq (hSw : BelL w6 wq); (first | (go_simp; done) | (go_simp; with_reducible rfl)); done)); (try simp only [Act.put, List.setIfInBounds_toArray, List.set_cons_zero, List.set_cons_succ]))
            refine lexH_nil ?_
            go_wp2
            go_ret
            exact ⟨by rw [HF.out]; rfl, belL⟩
          · have HT := Aside0.mk (range_all HA.out (show refAt ns i = true by unfold refAt; rw [getD40 hlt]; rw [show nodeB ns[i] = true from h1, h4, h5, H0.out, H3.out]; simp))
            go_upto_region 5 with (first | (with_reducible refine gate_dst (N := 4) rfl ?_; refine box_tc rfl (N := 4) rfl (cs := #[.bool false, .int .i64 0, .slice none 0 0, .slice none 0 0, .slice none 0 0, .slice none 0 0]) (t := 40) ?hr ?_; (case hr => first | (go_simp; done) | (go_simp; rfl)); intro g4 wg4 _ _ _))
            refine wp_letter fun w6 hb6 => ?_
            refine wp_region_lex (S := fun w_ => BelL w6 w_) (by kernel_rfl) (by kernel_rfl) belL ?_
            (refine lexH_take (v := ?_) (by kernel_rfl) ?_ ?_; rotate_left; (focus (intro wq (hSw : BelL w6 wq); (first | (go_simp; done) | (go_simp; with_reducible rfl)); done)); (try simp only [Act.put, List.setIfInBounds_toArray, List.set_cons_zero, List.set_cons_succ]))
            (refine lexH_call (by kernel_rfl) (by kernel_rfl) (fun K hK => ?_); go_simp; (go_at_call 112; (with_reducible refine Calls.mono (refNode_ (n := ns[i].f1.f1.length) (m := ns[i].f1.f2.length) (ni := ns[i].f2.length) (nl := ns[i].f3.length) (ps := ns[i].f1.f1) (xs := ns[i].f1.f2) (is := ns[i].f2) (ls := ns[i].f3) HZI.out.1 HZI.out.2) ?_); rw [h1]; rintro e wb ⟨rfl, hb⟩); refine hK.out _ _ belL ?_; clear hK K; (try simp only [Act.put, List.setIfInBounds_toArray, List.set_cons_zero, List.set_cons_succ]))
            iterate 25 (refine lexH_take (v := ?_) (by kernel_rfl) ?_ ?_; rotate_left; (focus (intro wq (hSw : BelL w6 wq); (first | (go_simp; done) | (go_simp; with_reducible rfl)); done)); (try simp only [Act.put, List.setIfInBounds_toArray, List.set_cons_zero, List.set_cons_succ]))
            (refine lexH_call (by kernel_rfl) (by kernel_rfl) (fun K hK => ?_); go_simp; (go_at_call 114; (with_reducible refine Calls.mono (refNames_ (ps := ns[i].f1.f1) HZI.out.1) ?_); rintro e wn ⟨An, cn, rfl, hFn, hbn⟩; have hln : (idsOf ns[i].f1.f1).length = ns[i].f1.f1.length := idsOf_len _; have hFn2 : SrL kI wn An ns[i].f1.f1.length cn (idsOf ns[i].f1.f1) := sr_l inferInstance); refine hK.out _ _ belL ?_; clear hK K; (try simp only [Act.put, List.setIfInBounds_toArray, List.set_cons_zero, List.set_cons_succ]))
            (refine lexH_call (by kernel_rfl) (by kernel_rfl) (fun K hK => ?_); go_simp; (go_at_call 113; (with_reducible refine Calls.mono (refAll_ (l := ns) (xs := idsOf ns[i].f1.f1) (m := ns[i].f1.f1.length)) ?_); rw [h4]; rintro e wk ⟨rfl, hbk⟩); refine hK.out _ _ belL ?_; clear hK K; (try simp only [Act.put, List.setIfInBounds_toArray, List.set_cons_zero, List.set_cons_succ]))
            iterate 8 (refine lexH_take (v := ?_) (by kernel_rfl) ?_ ?_; rotate_left; (focus (intro wq (hSw : BelL w6 wq); (first | (go_simp; done) | (go_simp; with_reducible rfl)); done)); (try simp only [Act.put, List.setIfInBounds_toArray, List.set_cons_zero, List.set_cons_succ]))
            (refine lexH_call (by kernel_rfl) (by kernel_rfl) (fun K hK => ?_); go_simp; (go_at_call 113; (with_reducible refine Calls.mono (refAll_ (l := ns) (xs := ns[i].f1.f2)) ?_); rw [h5]; rintro e wq ⟨rfl, hbq⟩); refine hK.out _ _ belL ?_; clear hK K; (try simp only [Act.put, List.setIfInBounds_toArray, List.set_cons_zero, List.set_cons_succ]))
            iterate 2 (refine lexH_take (v := ?_) (by kernel_rfl) ?_ ?_; rotate_left; (focus (intro wq (hSw : BelL w6 wq); (first | (go_simp; done) | (go_simp; with_reducible rfl)); done)); (try simp only [Act.put, List.setIfInBounds_toArray, List.set_cons_zero, List.set_cons_succ]))
            refine lexH_nil ?_
            go_wp2
            go_roundg (ns.length - (i + 1))
            case measure => omega
            case rel => exact ⟨i + 1, by go_num, by omega, rfl, HT, belL⟩
        · have H3 := Aside0.mk (show decide (ns[i - 1].f1.f0 < ns[i].f1.f0) = false from decide_eq_false (by have := of_decide_eq_true h3; omega))
          have HF := Aside0.mk (show mayB ns ps = false from refAt_stop hlt (by unfold refAt; rw [getD40 hlt]; rw [H0.out, H3.out, decide_eq_false h0]; simp))
          go_upto_region 5 with (first | (with_reducible refine gate_dst (N := 4) rfl ?_; refine box_tc rfl (N := 4) rfl (cs := #[.bool false, .int .i64 0, .slice none 0 0, .slice none 0 0, .slice none 0 0, .slice none 0 0]) (t := 40) ?hr ?_; (case hr => first | (go_simp; done) | (go_simp; rfl)); intro g4 wg4 _ _ _))
          refine wp_letter fun w6 hb6 => ?_
          refine wp_region_lex (S := fun w_ => BelL w6 w_) (by kernel_rfl) (by kernel_rfl) belL ?_
          (refine lexH_take (v := ?_) (by kernel_rfl) ?_ ?_; rotate_left; (focus (intro wq (hSw : BelL w6 wq); (first | (go_simp; done) | (go_simp; with_reducible rfl)); done)); (try simp only [Act.put, List.setIfInBounds_toArray, List.set_cons_zero, List.set_cons_succ]))
          (refine lexH_call (by kernel_rfl) (by kernel_rfl) (fun K hK => ?_); go_simp; (go_at_call 112; (with_reducible refine Calls.mono (refNode_ (n := ns[i].f1.f1.length) (m := ns[i].f1.f2.length) (ni := ns[i].f2.length) (nl := ns[i].f3.length) (ps := ns[i].f1.f1) (xs := ns[i].f1.f2) (is := ns[i].f2) (ls := ns[i].f3) HZI.out.1 HZI.out.2) ?_); rw [h1]; rintro e wb ⟨rfl, hb⟩); refine hK.out _ _ belL ?_; clear hK K; (try simp only [Act.put, List.setIfInBounds_toArray, List.set_cons_zero, List.set_cons_succ]))
          iterate 20 (refine lexH_take (v := ?_) (by kernel_rfl) ?_ ?_; rotate_left; (focus (intro wq (hSw : BelL w6 wq); (first | (go_simp; done) | (go_simp; with_reducible rfl)); done)); (try simp only [Act.put, List.setIfInBounds_toArray, List.set_cons_zero, List.set_cons_succ]))
          iterate 8 (refine lexH_skip (by kernel_rfl) ?_; (try simp only [Act.put, List.setIfInBounds_toArray, List.set_cons_zero, List.set_cons_succ]))
          iterate 2 (refine lexH_take (v := ?_) (by kernel_rfl) ?_ ?_; rotate_left; (focus (intro wq (hSw : BelL w6 wq); (first | (go_simp; done) | (go_simp; with_reducible rfl)); done)); (try simp only [Act.put, List.setIfInBounds_toArray, List.set_cons_zero, List.set_cons_succ]))
          iterate 7 (refine lexH_skip (by kernel_rfl) ?_; (try simp only [Act.put, List.setIfInBounds_toArray, List.set_cons_zero, List.set_cons_succ]))
          (refine lexH_take (v := ?_) (by kernel_rfl) ?_ ?_; rotate_left; (focus (intro wq (hSw : BelL w6 wq); (first | (go_simp; done) | (go_simp; with_reducible rfl)); done)); (try simp only [Act.put, List.setIfInBounds_toArray, List.set_cons_zero, List.set_cons_succ]))
          refine lexH_nil ?_
          go_wp2
          go_ret
          exact ⟨by rw [HF.out]; rfl, belL⟩
    · have HT := Aside0.mk (show mayB ns ps = (decide (1 ≤ ns.length) && (decide (ns.length ≤ 8) && (ps.all (packB ns) && queueB ps))) by
        have e : i = ns.length := by omega
        have := HA.out
        rw [e] at this
        rw [world_split, this, Bool.true_and])
      go_upto_region 8 with (fail)
      refine wp_letter fun w7 hb7 => ?_
      go_loopg [5] 0 (fun kq v5 w' => v5 = .int .i64 0 ∧ BelL wl w')
      case atStart => exact ⟨rfl, belL⟩
      case round =>
        obtain ⟨rfl, hbr2⟩ := hrel
        cases h6 : decide ((1 : Int) ≤ (ns.length : Int))
        · have HT2 := Aside0.mk (show mayB ns ps = false by rw [HT.out, decide_eq_false (show ¬ 1 ≤ ns.length by have := of_decide_eq_false h6; omega)]; rfl)
          go_wp2_with (first | (go_at_call 115; (with_reducible refine Calls.mono (refCuts0_) ?_); rintro e wb ⟨rfl, hb⟩) | (go_at_call 116; (with_reducible refine Calls.mono (refPackets_ (ns := ns) (ms := ps)) ?_); rintro e wb ⟨rfl, hb⟩))
          go_ret
          exact ⟨by rw [HT2.out]; rfl, belL⟩
        cases h7 : decide ((ns.length : Int) ≤ 8)
        · have HT2 := Aside0.mk (show mayB ns ps = false by rw [HT.out, decide_eq_false (show ¬ ns.length ≤ 8 by have := of_decide_eq_false h7; omega)]; simp)
          go_wp2_with (first | (go_at_call 115; (with_reducible refine Calls.mono (refCuts0_) ?_); rintro e wb ⟨rfl, hb⟩) | (go_at_call 116; (with_reducible refine Calls.mono (refPackets_ (ns := ns) (ms := ps)) ?_); rintro e wb ⟨rfl, hb⟩))
          go_ret
          exact ⟨by rw [HT2.out]; rfl, belL⟩
        · have HT2 := Aside0.mk (show mayB ns ps = (ps.all (packB ns) && queueB ps) by rw [HT.out, decide_eq_true (show 1 ≤ ns.length by have := of_decide_eq_true h6; omega), decide_eq_true (show ns.length ≤ 8 by have := of_decide_eq_true h7; omega)]; rfl)
          go_wp2_with (first | (go_at_call 115; (with_reducible refine Calls.mono (refCuts0_) ?_); rintro e wb ⟨rfl, hb⟩) | (go_at_call 116; (with_reducible refine Calls.mono (refPackets_ (ns := ns) (ms := ps)) ?_); rintro e wb ⟨rfl, hb⟩))
          go_ret
          exact ⟨by rw [HT2.out]; rfl, belL⟩
end Go.Proofs.YtljipbmmgcccnaaGreat.T
end
