/- Words and lemmas that the claim's proof names, part 5: what the program's functions answer, at the inputs that each theorem's premises name. Conditions: each theorem's own premises. -/
import Derived.Test.YtljipbmmgcccnaaGreatKP4
import Derived.Shelf.Abstract
section
namespace Go.Proofs.YtljipbmmgcccnaaGreat.T
open Go.RowKit Go.Proofs.YtljipbmmgcccnaaGreatW.PrintWords Go.Proofs.YtljipbmmgcccnaaGreatW.PrintLast Go.Proofs.YtljipbmmgcccnaaGreatW.PrintMore
set_option linter.unusedVariables false
set_option linter.unusedSimpArgs false
theorem cnt_boundary (p : Nat → Bool) : ∀ (n i : Nat), i ≤ n → (∀ t, t < i → p t = true) → (∀ t, i ≤ t → t < n → p t = false) → (List.range n).countP p = i
 | 0, i, hi, _, _ => by simp; omega
 | n + 1, i, hi, h1, h2 => by
   rw [List.range_succ, List.countP_append]
   by_cases h : i ≤ n
   ·rw [cnt_boundary p n i h h1 (fun t a b => h2 t a (by omega))]
    simp [h2 n h (by omega)]
   ·obtain rfl : i = n + 1 := by omega
    rw [cnt_boundary p n n (Nat.le_refl _) (fun t a => h1 t (by omega)) (fun t a b => by omega)]
    simp [h1 n (by omega)]
def cnt (cf : Nat → Int) (n : Nat) : Nat := (List.range n).countP (fun i => decide (cf i < 0))
def hit (cf : Nat → Int) (n : Nat) : Bool := decide (cnt cf n < n) && (cf (cnt cf n) == 0)
theorem cnt_eq {cf : Nat → Int} {n i : Nat} (h : i ≤ n) (h1 : ∀ t, t < i → cf t < 0) (h2 : ∀ t, i ≤ t → t < n → 0 ≤ cf t) : cnt cf n = i :=
 cnt_boundary _ n i h (fun t a => decide_eq_true (h1 t a)) (fun t a b => decide_eq_false (by have := h2 t a b; omega))
theorem hit_of {cf : Nat → Int} {n i : Nat} (e : cnt cf n = i) : hit cf n = (decide (i < n) && (cf i == 0)) := by unfold hit; rw [e]
theorem orderFind (base a m id : Int) (w : World) (h0 : placeB base = true) (h1 : placeB a = true) (h2 : placeB id = true) :
 Calls Tryz.prog 101 #[.agg #[.int .i64 base], .agg #[.int .i64 a, .int .i64 m], .int .i64 id] w fun e w' => e = .returned (.int .i64 (cmpI (farI base a) (farI base id))) ∧ Below w.heap.size w w' := by
 have HB := Aside0.mk (Below.refl w.heap.size w)
 go_enter Tryz.func101, Tryz.ntmps101
 go_upto_region 1 with (first | ((with_reducible refine gate_dst (N := 3) rfl ?_); refine box_event ?hg (N := 3) ?hd (cs := #[.int .i64 base]) (t := 147) ?hr ?_; (case hd => rfl); (case hg => rfl); (case hr => first | (go_simp; done) | (go_simp; rfl)); intro go hg wgo hbox hb; have n0_ := Aside0.mk (below_step (by repeat (first | (with_reducible first | exact HB.out | apply below_alloc | apply pw_below_drewN | apply below_drew1) | exact HB.out)) hb); have n1_ := Aside0.mk hbox; have n2_ := Aside0.mk ((by rw [hg]; exact (below_size (by repeat (first | (with_reducible first | exact HB.out | apply below_alloc | apply pw_below_drewN | apply below_drew1) | exact HB.out))) : w.heap.size ≤ go)); clear HB; have HB := n0_; have BKgo := n1_; have GEgo := n2_; clear n0_ n1_ n2_; clear hb hbox hg) | ((with_reducible refine gate_dst (N := 4) rfl ?_); refine box_event ?hg (N := 4) ?hd (cs := #[.int .i64 a, .int .i64 m]) (t := 98) ?hr ?_; (case hd => rfl); (case hg => rfl); (case hr => first | (go_simp; done) | (go_simp; rfl)); intro gp hg wgp hbox hb; have n0_ := Aside0.mk (blk_below (g := go) (o := .cells #[.int .i64 base] 147 (0, 0)) (by (with_reducible repeat (first | refine blk_drewN ?_ _ | refine blk_drew ?_ | refine blk_alloc ?_ _)); exact BKgo.out) hb); have n1_ := Aside0.mk (below_step (by repeat (first | (with_reducible first | exact HB.out | apply below_alloc | apply pw_below_drewN | apply below_drew1 | refine below_set ?_ GEgo.out) | exact HB.out)) hb); have n2_ := Aside0.mk hbox; have n3_ := Aside0.mk ((by rw [hg]; exact (below_size (by repeat (first | (with_reducible first | exact HB.out | apply below_alloc | apply pw_below_drewN | apply below_drew1 | refine below_set ?_ GEgo.out) | exact HB.out))) : w.heap.size ≤ gp)); have n4_ := Aside0.mk ((by rw [hg]; exact Nat.ne_of_lt (blk_lt (g := go) (o := .cells #[.int .i64 base] 147 (0, 0)) (by (with_reducible repeat (first | refine blk_drewN ?_ _ | refine blk_drew ?_ | refine blk_alloc ?_ _)); exact BKgo.out)) : go ≠ gp)); have n5_ := Aside0.mk ((by rw [hg]; exact Nat.ne_of_gt (blk_lt (g := go) (o := .cells #[.int .i64 base] 147 (0, 0)) (by (with_reducible repeat (first | refine blk_drewN ?_ _ | refine blk_drew ?_ | refine blk_alloc ?_ _)); exact BKgo.out)) : gp ≠ go)); clear BKgo; clear HB; have BKgo := n0_; have HB := n1_; have BKgp := n2_; have GEgp := n3_; have NBgo_gp := n4_; have NBgp_go := n5_; clear n0_ n1_ n2_ n3_ n4_ n5_; clear hb hbox hg))
 (try simp only [Act.put, put3])
 have hc0_go_0 : wgp.cell? ⟨go, 0, none⟩ = some (.int .i64 base) := (blk_cell BKgo.out 0).trans rfl
 have hf0_go_0 := blk_frozen BKgo.out 0
 have hc0_gp_0 : wgp.cell? ⟨gp, 0, none⟩ = some (.int .i64 a) := (blk_cell BKgp.out 0).trans rfl
 have hf0_gp_0 := blk_frozen BKgp.out 0
 have hc0_gp_1 : wgp.cell? ⟨gp, 1, none⟩ = some (.int .i64 m) := (blk_cell BKgp.out 1).trans rfl
 have hf0_gp_1 := blk_frozen BKgp.out 1
 have hn0_go_gp := NBgo_gp.out
 have hn0_gp_go := NBgp_go.out
 go_quiet (first | (go_at_call 100; refine (far _ _ (by assumption) (by assumption) _).mono ?_; rintro e w1 ⟨rfl, nd, rfl⟩; exact ⟨rfl, _, World.drewN_drewN _ _ _⟩) | (go_at_call 107; refine (compare _ _ _).mono ?_; rintro e w1 ⟨rfl, nd, rfl⟩; exact ⟨rfl, _, World.drewN_drewN _ _ _⟩))
 go_wp2
 go_ret
 exact ⟨rfl, by repeat (first | (with_reducible first | exact HB.out | apply below_alloc | apply pw_below_drewN | apply below_drew1 | refine below_set ?_ GEgo.out | refine below_set ?_ GEgp.out) | exact HB.out)⟩
set_option maxHeartbeats 4000000 in
theorem bsPeer (base id : Int) (A : Option Addr) (c : Nat) (l : List S98) (w : World) (hr : Kd.C k98 w A l.length l) (hc : l.length ≤ c) (hl : l.length ≤ 1000000) (h0 : placeB base = true) (h2 : placeB id = true) (hp : ∀ x ∈ l, placeB x.f0 = true)
 (hm : ∀ a b, a ≤ b → b < l.length → (fun i => cmpI (farI base (l.getD i z98).f0) (farI base id)) b < 0 → (fun i => cmpI (farI base (l.getD i z98).f0) (farI base id)) a < 0) :
 Calls Tryz.prog 102 #[.slice A l.length c, .int .i64 id, .func (.func 101) #[.agg #[.int .i64 base]] #[]] w fun e w' => e = .returned (.tuple #[.int .i64 (cnt (fun i => cmpI (farI base (l.getD i z98).f0) (farI base id)) l.length : Nat), .bool (hit (fun i => cmpI (farI base (l.getD i z98).f0) (farI base id)) l.length)]) ∧ Below w.heap.size w w' := by
 have HR := Aside0.mk hr
 have HB := Aside0.mk (Below.refl w.heap.size w)
 have M := Aside0.mk hm
 generalize hcf : (fun i => cmpI (farI base (l.getD i z98).f0) (farI base id)) = cf at M ⊢
 have CF := Aside0.mk hcf
 generalize hn : cnt cf l.length = n0
 have CN := Aside0.mk hn
 generalize hh : hit cf l.length = h0_
 have CH := Aside0.mk hh
 clear hr hc hm hn hh hcf
 have cmpAt : ∀ (i : Nat) (h : i < l.length) (W : World), Calls Tryz.prog 101 #[.agg #[.int .i64 base], .agg #[.int .i64 l[i].f0, .int .i64 l[i].f1], .int .i64 id] W fun e w' => e = .returned (.int .i64 (cf i)) ∧ Below W.heap.size W w' := by
  intro i h W
  rw [← CF.out]
  simp only [peer_getD h]
  exact orderFind base l[i].f0 l[i].f1 id W h0 (hp _ (List.getElem_mem h)) h2
 clear h0 h2 hp
 go_enter Tryz.func102, Tryz.ntmps102
 go_wp2
 go_loopg [9, 10] l.length (fun kx s9 s10 w' => ∃ lo hi : Nat, s9 = .int .i64 lo ∧ s10 = .int .i64 hi ∧ lo ≤ hi ∧ hi ≤ l.length ∧ hi - lo ≤ kx ∧ Aside0 (Below w.heap.size w w') ∧ Aside0 ((∀ t, t < lo → cf t < 0) ∧ (∀ t, hi ≤ t → t < l.length → 0 ≤ cf t)))
 case atStart => exact ⟨0, l.length, rfl, rfl, Nat.zero_le _, Nat.le_refl _, by omega, ⟨by repeat (first | (with_reducible first | exact HB.out | apply below_alloc | apply pw_below_drewN | apply below_drew1) | exact HB.out)⟩, ⟨fun t ht => absurd ht (Nat.not_lt_zero _), fun t h1 h2 => by omega⟩⟩
 case round =>
  clear HB
  obtain ⟨lo, hi, rfl, rfl, hlh, hin, hg, HB, I⟩ := hrel
  by_cases hlt : lo < hi
  ·have hmid : (lo + hi) / 2 < l.length := by omega
   obtain ⟨ad, rfl, hx0, hx1⟩ := peer_at (Kd.C_below HR.out HB.out) ((lo + hi) / 2) hmid
   have hcmp := fun W => cmpAt ((lo + hi) / 2) hmid W
   by_cases hyx : cf ((lo + hi) / 2) < 0
   ·go_wp2_with (first | (go_at_call 101; (with_reducible refine (hcmp _).mono ?_); rintro e wb ⟨rfl, hb⟩; have nb_ := Aside0.mk (below_step (by repeat (first | (with_reducible first | exact HB.out | apply below_alloc | apply pw_below_drewN | apply below_drew1) | exact HB.out)) hb); clear hb; clear HB; have HB := nb_; clear nb_))
    go_roundg (hi - ((lo + hi) / 2 + 1))
    case measure => omega
    case rel =>
     exact ⟨(lo + hi) / 2 + 1, hi, by rw [show ((lo : Int) + (hi : Int)) / 2 + 1 = (((lo + hi) / 2 + 1 : Nat) : Int) by omega], rfl, by omega, hin, Nat.le_refl _, ⟨by repeat (first | (with_reducible first | exact HB.out | apply below_alloc | apply pw_below_drewN | apply below_drew1) | exact HB.out)⟩, ⟨fun t ht => M.out t ((lo + hi) / 2) (by omega) (by omega) hyx, I.out.2⟩⟩
   ·go_wp2_with (first | (go_at_call 101; (with_reducible refine (hcmp _).mono ?_); rintro e wb ⟨rfl, hb⟩; have nb_ := Aside0.mk (below_step (by repeat (first | (with_reducible first | exact HB.out | apply below_alloc | apply pw_below_drewN | apply below_drew1) | exact HB.out)) hb); clear hb; clear HB; have HB := nb_; clear nb_))
    go_roundg ((lo + hi) / 2 - lo)
    case measure => omega
    case rel =>
     exact ⟨lo, (lo + hi) / 2, rfl, by rw [show ((lo : Int) + (hi : Int)) / 2 = (((lo + hi) / 2 : Nat) : Int) by omega], by omega, by omega, Nat.le_refl _, ⟨by repeat (first | (with_reducible first | exact HB.out | apply below_alloc | apply pw_below_drewN | apply below_drew1) | exact HB.out)⟩, ⟨I.out.1, fun t ht htn => Int.not_lt.1 fun h => by have := M.out ((lo + hi) / 2) t ht htn h; omega⟩⟩
  ·obtain rfl : hi = lo := by omega
   have EN := Aside0.mk (show n0 = hi by rw [← CN.out]; exact cnt_eq hin I.out.1 I.out.2)
   have EH := Aside0.mk (show h0_ = (decide (hi < l.length) && (cf hi == 0)) by rw [← CH.out]; exact hit_of (cnt_eq hin I.out.1 I.out.2))
   by_cases hn : hi < l.length
   ·obtain ⟨ad, rfl, hx0, hx1⟩ := peer_at (Kd.C_below HR.out HB.out) hi hn
    have hcmp := fun W => cmpAt hi hn W
    go_wp2_with (first | (go_at_call 101; (with_reducible refine (hcmp _).mono ?_); rintro e wb ⟨rfl, hb⟩; have nb_ := Aside0.mk (below_step (by repeat (first | (with_reducible first | exact HB.out | apply below_alloc | apply pw_below_drewN | apply below_drew1) | exact HB.out)) hb); clear hb; clear HB; have HB := nb_; clear nb_))
    go_ret2
    exact ⟨by rw [EN.out, EH.out, decide_eq_true hn]; rfl, by repeat (first | (with_reducible first | exact HB.out | apply below_alloc | apply pw_below_drewN | apply below_drew1) | exact HB.out)⟩
   ·go_wp2
    go_ret2
    exact ⟨by rw [EN.out, EH.out, decide_eq_false hn]; rfl, by repeat (first | (with_reducible first | exact HB.out | apply below_alloc | apply pw_below_drewN | apply below_drew1) | exact HB.out)⟩
def peerC (base : Int) (l : List S98) (id : Int) : Nat → Int := fun i => cmpI (farI base (l.getD i z98).f0) (farI base id)
def findN (base : Int) (l : List S98) (id : Int) : Nat := cnt (peerC base l id) l.length
def knownB (l : List S98) (id : Int) : Bool := l.any fun p => p.f0 == id
theorem peersB_at {base : Int} {l : List S98} (h : peersB base l = true) {i : Nat} (hi : i < l.length) :
 placeB l[i].f0 = true ∧ 0 ≤ l[i].f1 ∧ l[i].f1 < 3 ∧ lastFar base l i < farI base l[i].f0 := by
 unfold peersB at h
 have h2 := (Bool.and_eq_true_iff.1 h).2
 rw [List.all_eq_true] at h2
 have h3 := h2 i (List.mem_range.2 hi)
 unfold peerAt at h3
 rw [peer_getD hi] at h3
 simp only [Bool.and_eq_true, decide_eq_true_eq] at h3
 exact ⟨h3.1.1.1, h3.1.1.2, h3.1.2, h3.2⟩
theorem peersB_base {base : Int} {l : List S98} (h : peersB base l = true) : placeB base = true ∧ l.length ≤ 16 := by
 unfold peersB at h
 have h1 := (Bool.and_eq_true_iff.1 (Bool.and_eq_true_iff.1 h).1)
 exact ⟨h1.1, of_decide_eq_true h1.2⟩
theorem peersB_far {base : Int} {l : List S98} (h : peersB base l = true) : ∀ (d a : Nat) (hb : a + d + 1 < l.length), farI base (l[a]'(by omega)).f0 < farI base l[a + d + 1].f0
 | 0, a, hb => by
   have := (peersB_at h hb).2.2.2
   rwa [lastFar_next (by omega)] at this
 | d + 1, a, hb => by
   have h1 := peersB_far h d a (by omega)
   have h2 := (peersB_at h (i := a + (d + 1) + 1) hb).2.2.2
   rw [show lastFar base l (a + (d + 1) + 1) = _ from lastFar_next (base := base) (l := l) (i := a + d + 1) (by omega)] at h2
   exact Int.lt_trans h1 h2
theorem cmpI_neg {a b : Int} : cmpI a b < 0 ↔ a < b := by unfold cmpI; split <;> (try split) <;> omega
theorem cmpI_zero {a b : Int} : cmpI a b = 0 ↔ a = b := by unfold cmpI; split <;> (try split) <;> omega
theorem peerC_mono {base : Int} {l : List S98} (h : peersB base l = true) (id : Int) (a b : Nat) (hab : a ≤ b) (hb : b < l.length) (hc : peerC base l id b < 0) : peerC base l id a < 0 := by
 unfold peerC at hc ⊢
 rw [peer_getD hb, cmpI_neg] at hc
 rw [peer_getD (by omega), cmpI_neg]
 rcases Nat.lt_or_eq_of_le hab with h1 | h1
 ·have := peersB_far h (b - a - 1) a (by omega)
  have e : a + (b - a - 1) + 1 = b := by omega
  simp only [e] at this
  omega
 ·subst h1; exact hc
theorem farI_inj {base a b : Int} (ha : placeB a = true) (hb : placeB b = true) (h : farI base a = farI base b) : a = b := by
 have := (placeB_iff a).1 ha
 have := (placeB_iff b).1 hb
 unfold farI at h
 omega
theorem cnt_spec (cf : Nat → Int) : ∀ n, (∀ a b, a ≤ b → b < n → cf b < 0 → cf a < 0) → cnt cf n ≤ n ∧ (∀ t, t < cnt cf n → cf t < 0) ∧ (∀ t, cnt cf n ≤ t → t < n → 0 ≤ cf t)
 | 0, _ => ⟨by simp [cnt], fun t ht => absurd ht (by simp [cnt]), fun t h1 h2 => by omega⟩
 | n + 1, hm => by
   obtain ⟨h0, h1, h2⟩ := cnt_spec cf n (fun a b x y => hm a b x (by omega))
   have e : cnt cf (n + 1) = cnt cf n + (if cf n < 0 then 1 else 0) := by unfold cnt; rw [List.range_succ, List.countP_append]; congr 1; simp [List.countP_cons]
   by_cases hn : cf n < 0
   ·have e2 : cnt cf n = n := by
     apply Nat.le_antisymm h0
     apply Nat.le_of_not_lt
     intro hl
     have := h2 (cnt cf n) (Nat.le_refl _) hl
     have := hm (cnt cf n) n h0 (by omega) hn
     omega
    rw [e, if_pos hn, e2]
    exact ⟨by omega, fun t ht => hm t n (by omega) (by omega) hn, fun t h3 h4 => by omega⟩
   ·rw [e, if_neg hn]
    refine ⟨by omega, h1, fun t h3 h4 => ?_⟩
    by_cases htn : t < n
    ·exact h2 t h3 htn
    ·obtain rfl : t = n := by omega
     omega
theorem hit_iff (cf : Nat → Int) (n : Nat) (hm : ∀ a b, a ≤ b → b < n → cf b < 0 → cf a < 0) (hz : ∀ a b, a < b → b < n → cf b ≤ 0 → cf a < 0) : hit cf n = true ↔ ∃ i, i < n ∧ cf i = 0 := by
 obtain ⟨h0, h1, h2⟩ := cnt_spec cf n hm
 unfold hit
 simp only [Bool.and_eq_true, decide_eq_true_eq, beq_iff_eq]
 constructor
 ·rintro ⟨a, b⟩; exact ⟨_, a, b⟩
 ·rintro ⟨i, hi, hc⟩
  have hge : cnt cf n ≤ i := Nat.le_of_not_lt fun h => by have := h1 i h; omega
  rcases Nat.lt_or_eq_of_le hge with h3 | h3
  ·have := hz (cnt cf n) i h3 hi (by omega)
   have := h2 (cnt cf n) (Nat.le_refl _) (by omega)
   omega
  ·exact ⟨by omega, by rw [h3]; exact hc⟩
theorem findB_known {base : Int} {l : List S98} {id : Int} (h : peersB base l = true) (hid : placeB id = true) : hit (peerC base l id) l.length = knownB l id := by
 rw [Bool.eq_iff_iff, hit_iff _ _ (peerC_mono h id) (fun a b hab hb hc => ?_)]
 ·unfold knownB
  rw [List.any_eq_true]
  constructor
  ·rintro ⟨i, hi, hc⟩
   unfold peerC at hc
   rw [peer_getD hi, cmpI_zero] at hc
   exact ⟨l[i], List.getElem_mem hi, by rw [farI_inj (peersB_at h hi).1 hid hc]; simp⟩
  ·rintro ⟨x, hx, he⟩
   obtain ⟨i, hi, rfl⟩ := List.getElem_of_mem hx
   exact ⟨i, hi, by unfold peerC; rw [peer_getD hi, cmpI_zero, eq_of_beq he]⟩
 ·unfold peerC at hc ⊢
  rw [peer_getD hb] at hc
  rw [peer_getD (by omega), cmpI_neg]
  have h1 := peersB_far h (b - a - 1) a (by omega)
  have e : a + (b - a - 1) + 1 = b := by omega
  simp only [e] at h1
  have h2 : ¬ farI base id < farI base l[b].f0 := fun h3 => by
   have : 0 < cmpI (farI base l[b].f0) (farI base id) := by unfold cmpI; rw [if_neg (by omega), if_pos (by omega)]; omega
   omega
  omega
theorem peersFind (base id : Int) (A : Option Addr) (c : Nat) (l : List S98) (w : World) (hr : Kd.C k98 w A l.length l) (hc : l.length ≤ c) (hp : peersB base l = true) (hid : placeB id = true) :
 Calls Tryz.prog 45 #[.int .i64 base, .slice A l.length c, .int .i64 id] w fun e w' => e = .returned (.tuple #[.int .i64 (findN base l id : Nat), .bool (knownB l id)]) ∧ Below w.heap.size w w' := by
 have hb := bsPeer base id A c l w hr hc (by have := (peersB_base hp).2; omega) (peersB_base hp).1 hid (fun x hx => by obtain ⟨i, hi, rfl⟩ := List.getElem_of_mem hx; exact (peersB_at hp hi).1) (peerC_mono hp id)
 rw [show hit (fun i => cmpI (farI base (l.getD i z98).f0) (farI base id)) l.length = knownB l id from findB_known hp hid] at hb
 have HC := Aside0.mk hb
 have HB := Aside0.mk (Below.refl w.heap.size w)
 clear hr hc hp hid hb
 go_enter Tryz.func45, Tryz.ntmps45
 go_wp2_with (first | (go_at_call 102; (with_reducible refine (HC.out).mono ?_); rintro e wb ⟨rfl, hb⟩; have nb_ := Aside0.mk (below_step (by repeat (first | (with_reducible first | exact HB.out | apply below_alloc | apply pw_below_drewN | apply below_drew1) | exact HB.out)) hb); clear hb; clear HB; have HB := nb_; clear nb_))
 go_ret2
 exact ⟨rfl, by repeat (first | (with_reducible first | exact HB.out | apply below_alloc | apply pw_below_drewN | apply below_drew1) | exact HB.out)⟩
theorem cell_b {w W : World} {p : Addr} {v : Value} (h : w.cell? p = some v) (hb : Below w.heap.size w W) : W.cell? p = some v := (hb.cell (block_lt_of_cell h)).trans h
def ViewAt (w : World) (ad : Addr) (id : Int) (A : Option Addr) (c : Nat) (ps : List S98) (B : Option Addr) (d : Nat) (xs : List Int) : Prop :=
 w.cell? ad = some (.int .i64 id) ∧ w.cell? ⟨ad.block, ad.off + 1, none⟩ = some (.slice A ps.length c) ∧ w.cell? ⟨ad.block, ad.off + 2, none⟩ = some (.slice B xs.length d)
theorem ViewAt.below {w W : World} {ad : Addr} {id : Int} {A : Option Addr} {c : Nat} {ps : List S98} {B : Option Addr} {d : Nat} {xs : List Int} (h : ViewAt w ad id A c ps B d xs) (hb : Below w.heap.size w W) : ViewAt W ad id A c ps B d xs :=
 ⟨cell_b h.1 hb, cell_b h.2.1 hb, cell_b h.2.2 hb⟩
theorem viewPeer (id x : Int) (ad : Addr) (A : Option Addr) (c : Nat) (ps : List S98) (B : Option Addr) (d : Nat) (xs : List Int) (w : World) (hv : ViewAt w ad id A c ps B d xs) (hr : Kd.C k98 w A ps.length ps) (hc : ps.length ≤ c) (hp : peersB id ps = true) (hx : placeB x = true) :
 Calls Tryz.prog 39 #[.pointer (some ad), .int .i64 x] w fun e w' => e = .returned (.bool (knownB ps x)) ∧ Below w.heap.size w w' := by
 have HF := Aside0.mk (fun (W : World) (hb : Below w.heap.size w W) => peersFind id x A c ps W (Kd.C_below hr hb) hc hp hx)
 have HV := Aside0.mk hv
 have HB := Aside0.mk (Below.refl w.heap.size w)
 obtain ⟨h0, h1, h2⟩ := hv
 clear hr hc hp hx h2
 go_enter Tryz.func39, Tryz.ntmps39
 go_upto_region 1 with (fail)
 go_region_held3 (fun w' => w'.cell? ad = some (.int .i64 id) ∧ w'.cell? ⟨ad.block, ad.off + 1, none⟩ = some (.slice A ps.length c) ∧ Below w.heap.size w w')
  (first | (refine ⟨(HV.out.below (below_step (by repeat (first | (with_reducible first | exact HB.out | apply below_alloc | apply pw_below_drewN | apply below_drew1) | exact HB.out)) hb)).1, (HV.out.below (below_step (by repeat (first | (with_reducible first | exact HB.out | apply below_alloc | apply pw_below_drewN | apply below_drew1) | exact HB.out)) hb)).2.1, below_step (by repeat (first | (with_reducible first | exact HB.out | apply below_alloc | apply pw_below_drewN | apply below_drew1) | exact HB.out)) hb⟩; done) | (refine ⟨h0, h1, by repeat (first | (with_reducible first | exact HB.out | apply below_alloc | apply pw_below_drewN | apply below_drew1) | exact HB.out)⟩; done) | go_keep)
  (first | (go_at_call 45; refine (HF.out _ (by repeat (first | (with_reducible first | exact HB.out | apply below_alloc | apply pw_below_drewN | apply below_drew1) | exact HB.out))).mono ?_; rintro e w' ⟨rfl, hb⟩))
 go_wp2
 go_ret
 exact ⟨rfl, below_step (by repeat (first | (with_reducible first | exact HB.out | apply below_alloc | apply pw_below_drewN | apply below_drew1) | exact HB.out)) hb⟩
end Go.Proofs.YtljipbmmgcccnaaGreat.T
end
section
namespace Go.Proofs.YtljipbmmgcccnaaGreat.T
open Go.RowKit Go.Proofs.YtljipbmmgcccnaaGreatW.PrintWords Go.Proofs.YtljipbmmgcccnaaGreatW.PrintLast Go.Proofs.YtljipbmmgcccnaaGreatW.PrintMore
set_option linter.unusedVariables false
set_option linter.unusedSimpArgs false
set_option maxHeartbeats 2000000 in
theorem anyIntIdx (g : Nat) (lb : Array Value) (eg : ∀ args w, (callFunc g args).run Tryz.prog w = .ok (.enter g args) w) (p : Int → Bool) (A : Option Addr) (c : Nat) (l : List Int) (w : World) (hr : Kd.C (Kd.int .i64) w A l.length l) (hc : l.length ≤ c)
 (hp : ∀ (W : World), Below w.heap.size w W → ∀ (i : Nat) (h : i < l.length), Calls Tryz.prog g (#[.int .i64 l[i]] ++ lb) W fun e w' => e = .returned (.bool (p l[i])) ∧ Below W.heap.size W w') :
 Calls Tryz.prog 105 #[.slice A l.length c, .func (.func g) #[] lb] w fun e w' => ∃ k : Int, e = .returned (.int .i64 k) ∧ decide (0 ≤ k) = l.any p ∧ (-1 ≤ k ∧ ∀ i : Nat, k = i → ∃ h : i < l.length, p l[i] = true ∧ ∀ j (h : j < l.length), j < i → p l[j] = false) ∧ Below w.heap.size w w' := by
 have HR := Aside0.mk hr
 have HP := Aside0.mk hp
 have hlen : l.length ≤ 9223372036854775807 := hr.2.1
 have HB := Aside0.mk (Below.refl w.heap.size w)
 clear hr hc hp
 go_enter Tryz.func105, Tryz.ntmps105
 go_wp2
 go_loopg [8] l.length (fun kq v8 w' => ∃ i : Nat, v8 = .int .i64 i ∧ i ≤ l.length ∧ kq = l.length - i ∧ Aside0 (∀ j (h : j < l.length), j < i → p l[j] = false) ∧ Aside0 (Below w.heap.size w w'))
 case atStart => exact ⟨0, rfl, Nat.zero_le _, rfl, ⟨fun j h hj => absurd hj (Nat.not_lt_zero _)⟩, ⟨by repeat (first | (with_reducible first | exact HB.out | apply below_alloc | apply pw_below_drewN | apply below_drew1) | exact HB.out)⟩⟩
 case round =>
  clear HB
  obtain ⟨i, rfl, hi, rfl, HA, HB⟩ := hrel
  by_cases hlt : i < l.length
  ·obtain ⟨ad, rfl, hx⟩ := int_at (Kd.C_below HR.out HB.out) i hlt
   have hcal := HP.out _ HB.out i hlt
   cases hpi : p l[i]
   ·rw [hpi] at hcal
    go_wp2_with (first | (go_at_fn g; (with_reducible refine hcal.mono ?_); rintro e wb ⟨rfl, hb⟩; have nb_ := Aside0.mk (below_step (by repeat (first | (with_reducible first | exact HB.out | apply below_alloc | apply pw_below_drewN | apply below_drew1) | exact HB.out)) hb); clear hb; clear HB; have HB := nb_; clear nb_))
    go_roundg (l.length - (i + 1))
    case measure => omega
    case rel =>
     exact ⟨i + 1, by go_num, by omega, rfl, ⟨fun j h hj => by
      rcases Nat.lt_or_eq_of_le (Nat.le_of_lt_succ hj) with h2 | h2
      ·exact HA.out j h h2
      ·subst h2; exact hpi⟩, ⟨by repeat (first | (with_reducible first | exact HB.out | apply below_alloc | apply pw_below_drewN | apply below_drew1) | exact HB.out)⟩⟩
   ·rw [hpi] at hcal
    have HT := Aside0.mk (show l.any p = true from List.any_eq_true.2 ⟨l[i], List.getElem_mem hlt, hpi⟩)
    go_wp2_with (first | (go_at_fn g; (with_reducible refine hcal.mono ?_); rintro e wb ⟨rfl, hb⟩; have nb_ := Aside0.mk (below_step (by repeat (first | (with_reducible first | exact HB.out | apply below_alloc | apply pw_below_drewN | apply below_drew1) | exact HB.out)) hb); clear hb; clear HB; have HB := nb_; clear nb_))
    go_ret
    exact ⟨(i : Int), rfl, by rw [HT.out]; exact decide_eq_true (by omega), ⟨by omega, fun i' e => (show i = i' by omega) ▸ ⟨hlt, hpi, HA.out⟩⟩, by repeat (first | (with_reducible first | exact HB.out | apply below_alloc | apply pw_below_drewN | apply below_drew1) | exact HB.out)⟩
  ·have HT := Aside0.mk (show l.any p = false by
    rw [List.any_eq_false]
    intro x hx
    obtain ⟨j, hj, rfl⟩ := List.getElem_of_mem hx
    rw [HA.out j hj (by omega)]; exact Bool.false_ne_true)
   go_wp2
   go_ret
   exact ⟨-1, rfl, by rw [HT.out]; rfl, ⟨Int.le_refl _, fun i e => by omega⟩, by repeat (first | (with_reducible first | exact HB.out | apply below_alloc | apply pw_below_drewN | apply below_drew1) | exact HB.out)⟩
theorem anyInt (g : Nat) (lb : Array Value) (eg : ∀ args w, (callFunc g args).run Tryz.prog w = .ok (.enter g args) w) (p : Int → Bool) (A : Option Addr) (c : Nat) (l : List Int) (w : World) (hr : Kd.C (Kd.int .i64) w A l.length l) (hc : l.length ≤ c)
 (hp : ∀ (W : World), Below w.heap.size w W → ∀ (i : Nat) (h : i < l.length), Calls Tryz.prog g (#[.int .i64 l[i]] ++ lb) W fun e w' => e = .returned (.bool (p l[i])) ∧ Below W.heap.size W w') :
 Calls Tryz.prog 93 #[.slice A l.length c, .func (.func g) #[] lb] w fun e w' => e = .returned (.bool (l.any p)) ∧ Below w.heap.size w w' := by
 have HC := Aside0.mk (anyIntIdx g lb eg p A c l w hr hc hp)
 have HB := Aside0.mk (Below.refl w.heap.size w)
 clear hr hc hp eg
 go_enter Tryz.func93, Tryz.ntmps93
 go_wp2_with (first | (go_at_call 105; (with_reducible refine HC.out.mono ?_); rintro e wb ⟨k, rfl, hk, _, hb⟩; have HK := Aside0.mk hk; clear hk; have nb_ := Aside0.mk (below_step (by repeat (first | (with_reducible first | exact HB.out | apply below_alloc | apply pw_below_drewN | apply below_drew1) | exact HB.out)) hb); clear hb; clear HB; have HB := nb_; clear nb_))
 go_ret
 exact ⟨by rw [← HK.out]; rfl, by repeat (first | (with_reducible first | exact HB.out | apply below_alloc | apply pw_below_drewN | apply below_drew1) | exact HB.out)⟩
theorem indexInt (x : Int) (A : Option Addr) (c : Nat) (l : List Int) (w : World) (hr : Kd.C (Kd.int .i64) w A l.length l) (hc : l.length ≤ c) :
 Calls Tryz.prog 148 #[.slice A l.length c, .int .i64 x] w fun e w' => ∃ k : Int, e = .returned (.int .i64 k) ∧ decide (0 ≤ k) = (l.any fun y => y == x) ∧ Drawn0 w w' := by
 have HR := Aside0.mk hr
 have hlen : l.length ≤ 9223372036854775807 := hr.2.1
 clear hr hc
 go_enter Tryz.func148, Tryz.ntmps148
 go_wp2
 go_loopg [8] l.length (fun kq v8 w' => ∃ i : Nat, v8 = .int .i64 i ∧ i ≤ l.length ∧ kq = l.length - i ∧ Aside0 (∀ j (h : j < l.length), j < i → l[j] ≠ x) ∧ Drawn0 w w')
 case atStart => exact ⟨0, rfl, Nat.zero_le _, rfl, ⟨fun j h hj => absurd hj (Nat.not_lt_zero _)⟩, by repeat (first | exact Drawn0.refl _ | apply Drawn0.step)⟩
 case round =>
  obtain ⟨i, rfl, hi, rfl, HA, ⟨m1, rfl⟩⟩ := hrel
  by_cases hlt : i < l.length
  ·obtain ⟨ad, rfl, hx⟩ := int_at HR.out i hlt
   by_cases hpi : x = l[i]
   ·have HT := Aside0.mk (show (l.any fun y => y == x) = true from List.any_eq_true.2 ⟨l[i], List.getElem_mem hlt, by simp [hpi]⟩)
    go_wp2
    go_ret
    exact ⟨(i : Int), rfl, by rw [HT.out]; exact decide_eq_true (by omega), by repeat (first | exact Drawn0.refl _ | apply Drawn0.step)⟩
   ·have HN := Aside0.mk (show ∀ j (h : j < l.length), j < i + 1 → l[j] ≠ x from fun j h hj => by
     rcases Nat.lt_or_eq_of_le (Nat.le_of_lt_succ hj) with h2 | h2
     ·exact HA.out j h h2
     ·subst h2; exact fun h => hpi h.symm)
    go_wp2
    go_roundg (l.length - (i + 1))
    case measure => omega
    case rel => exact ⟨i + 1, by go_num, by omega, rfl, HN, by repeat (first | exact Drawn0.refl _ | apply Drawn0.step)⟩
  ·have HT := Aside0.mk (show (l.any fun y => y == x) = false by
    rw [List.any_eq_false]
    intro y hy
    obtain ⟨j, hj, rfl⟩ := List.getElem_of_mem hy
    simpa using HA.out j hj (by omega))
   go_wp2
   go_ret
   exact ⟨-1, rfl, by rw [HT.out]; rfl, by repeat (first | exact Drawn0.refl _ | apply Drawn0.step)⟩
theorem containsInt (x : Int) (A : Option Addr) (c : Nat) (l : List Int) (w : World) (hr : Kd.C (Kd.int .i64) w A l.length l) (hc : l.length ≤ c) :
 Calls Tryz.prog 99 #[.slice A l.length c, .int .i64 x] w fun e w' => e = .returned (.bool (l.any fun y => y == x)) ∧ Drawn0 w w' := by
 have HC := Aside0.mk (indexInt x A c l w hr hc)
 clear hr hc
 go_enter Tryz.func99, Tryz.ntmps99
 go_wp2_with (first | (go_at_call 148; (with_reducible refine HC.out.mono ?_); rintro e wb ⟨k, rfl, hk, ⟨nd, rfl⟩⟩; have HK := Aside0.mk hk; clear hk))
 go_ret
 exact ⟨by rw [← HK.out]; rfl, by repeat (first | exact Drawn0.refl _ | apply Drawn0.step)⟩
theorem viewPassive (id x : Int) (ad : Addr) (A : Option Addr) (c : Nat) (ps : List S98) (B : Option Addr) (d : Nat) (xs : List Int) (w : World) (hv : ViewAt w ad id A c ps B d xs) (hr : Kd.C (Kd.int .i64) w B xs.length xs) (hc : xs.length ≤ d) :
 Calls Tryz.prog 40 #[.pointer (some ad), .int .i64 x] w fun e w' => e = .returned (.bool (xs.any fun y => y == x)) ∧ Drawn0 w w' := by
 have HC := Aside0.mk (containsInt x B d xs w hr hc)
 obtain ⟨h0, h1, h2⟩ := hv
 clear hr hc h0 h1
 go_enter Tryz.func40, Tryz.ntmps40
 go_wp2_with (first | (go_at_call 99; (with_reducible refine (HC.out).mono ?_); rintro e w' ⟨rfl, ⟨nd, rfl⟩⟩))
 go_ret
 exact ⟨rfl, by repeat (first | exact Drawn0.refl _ | apply Drawn0.step)⟩
theorem viewOdd (id x : Int) (ad : Addr) (A : Option Addr) (c : Nat) (ps : List S98) (B : Option Addr) (d : Nat) (xs : List Int) (w : World) (hv : ViewAt w ad id A c ps B d xs) (hr : Kd.C k98 w A ps.length ps) (hc : ps.length ≤ c) (hp : peersB id ps = true) (hx : placeB x = true) :
 Calls Tryz.prog 97 (#[.int .i64 x] ++ #[.pointer (some ad)]) w fun e w' => e = .returned (.bool (x == id || knownB ps x)) ∧ Below w.heap.size w w' := by
 have HC := Aside0.mk (viewPeer id x ad A c ps B d xs w hv hr hc hp hx)
 have HB := Aside0.mk (Below.refl w.heap.size w)
 obtain ⟨h0, h1, h2⟩ := hv
 clear hr hc h1 h2 hp hx
 by_cases he : x = id
 ·have HT := Aside0.mk (show (x == id || knownB ps x) = true by simp [he])
  go_enter Tryz.func97, Tryz.ntmps97
  go_wp2_with (first | (go_at_call 39; (with_reducible refine (HC.out).mono ?_); rintro e wb ⟨rfl, hb⟩; have nb_ := Aside0.mk (below_step (by repeat (first | (with_reducible first | exact HB.out | apply below_alloc | apply pw_below_drewN | apply below_drew1) | exact HB.out)) hb); clear hb; clear HB; have HB := nb_; clear nb_))
  go_ret
  exact ⟨by rw [HT.out]; rfl, by repeat (first | (with_reducible first | exact HB.out | apply below_alloc | apply pw_below_drewN | apply below_drew1) | exact HB.out)⟩
 ·have HT := Aside0.mk (show (x == id || knownB ps x) = knownB ps x by simp [he])
  go_enter Tryz.func97, Tryz.ntmps97
  go_wp2_with (first | (go_at_call 39; (with_reducible refine (HC.out).mono ?_); rintro e wb ⟨rfl, hb⟩; have nb_ := Aside0.mk (below_step (by repeat (first | (with_reducible first | exact HB.out | apply below_alloc | apply pw_below_drewN | apply below_drew1) | exact HB.out)) hb); clear hb; clear HB; have HB := nb_; clear nb_))
  go_ret
  exact ⟨by rw [HT.out]; rfl, by repeat (first | (with_reducible first | exact HB.out | apply below_alloc | apply pw_below_drewN | apply below_drew1) | exact HB.out)⟩
def viewB (id : Int) (ps : List S98) (xs : List Int) : Bool :=
 peersB id ps && passB xs && decide (ps.length + xs.length ≤ 16) && !(xs.any fun x => x == id || knownB ps x)
theorem passB_at {xs : List Int} (h : passB xs = true) {i : Nat} (hi : i < xs.length) : placeB xs[i] = true ∧ (i = 0 ∨ xs.getD (i - 1) 0 < xs[i]) := by
 unfold passB at h
 have h2 := (Bool.and_eq_true_iff.1 h).1
 rw [List.all_eq_true] at h2
 have h3 := h2 i (List.mem_range.2 hi)
 unfold passAt at h3
 rw [getD_at hi] at h3
 simp only [Bool.and_eq_true, Bool.or_eq_true, decide_eq_true_eq] at h3
 exact h3
theorem passB_len {xs : List Int} (h : passB xs = true) : xs.length ≤ 16 := by
 unfold passB at h
 exact of_decide_eq_true (Bool.and_eq_true_iff.1 h).2
theorem viewMay_a (id : Int) (A : Option Addr) (c : Nat) (ps : List S98) (B : Option Addr) (d : Nat) (xs : List Int) (w : World) (hrp : Kd.C k98 w A ps.length ps) (hc : ps.length ≤ c) (hrx : Kd.C (Kd.int .i64) w B xs.length xs) (hd : xs.length ≤ d) (h1 : peersB id ps = false) :
 Calls Tryz.prog 34 #[.agg #[.int .i64 id, .slice A ps.length c, .slice B xs.length d]] w fun e w' => e = .returned (.bool (viewB id ps xs)) ∧ Below w.heap.size w w' := by
 have HB := Aside0.mk (Below.refl w.heap.size w)
 have HRP := Aside0.mk hrp
 have HRX := Aside0.mk hrx
 have hlp : ps.length ≤ 9223372036854775807 := hrp.2.1
 have hlx : xs.length ≤ 9223372036854775807 := hrx.2.1
 have HT := Aside0.mk (show viewB id ps xs = false by unfold viewB; simp [h1])
 clear hd
 clear hrp hrx
 go_enter Tryz.func34, Tryz.ntmps34
 go_upto_region 1 with (first | ((with_reducible refine gate_dst (N := 1) rfl ?_); refine box_event ?hg (N := 1) ?hd (cs := #[.int .i64 id, .slice A ps.length c, .slice B xs.length d]) (t := 25) ?hr ?_; (case hd => rfl); (case hg => rfl); (case hr => first | (go_simp; done) | (go_simp; rfl)); intro gv hg wgv hbox hb; have n0_ := Aside0.mk (below_step (by repeat (first | (with_reducible first | exact HB.out | apply below_alloc | apply pw_below_drewN | apply below_drew1) | exact HB.out)) hb); have n1_ := Aside0.mk hbox; have n2_ := Aside0.mk ((by rw [hg]; exact (below_size (by repeat (first | (with_reducible first | exact HB.out | apply below_alloc | apply pw_below_drewN | apply below_drew1) | exact HB.out))) : w.heap.size ≤ gv)); clear HB; have HB := n0_; have BKgv := n1_; have GEgv := n2_; clear n0_ n1_ n2_; clear hb hbox hg))
 (try simp only [Act.put, put3])
 have hc0_gv_0 : wgv.cell? ⟨gv, 0, none⟩ = some (.int .i64 id) := (blk_cell BKgv.out 0).trans rfl
 have hf0_gv_0 := blk_frozen BKgv.out 0
 have hc0_gv_1 : wgv.cell? ⟨gv, 1, none⟩ = some (.slice A ps.length c) := (blk_cell BKgv.out 1).trans rfl
 have hf0_gv_1 := blk_frozen BKgv.out 1
 have hc0_gv_2 : wgv.cell? ⟨gv, 2, none⟩ = some (.slice B xs.length d) := (blk_cell BKgv.out 2).trans rfl
 have hf0_gv_2 := blk_frozen BKgv.out 2
 go_wp2_with (first | (go_at_call 43; (with_reducible refine (peersMay _ _ _ _ _ (Kd.C_below HRP.out (by repeat (first | (with_reducible first | exact HB.out | apply below_alloc | apply pw_below_drewN | apply below_drew1 | refine below_set ?_ GEgv.out) | exact HB.out))) hc).mono ?_); rintro e w1 ⟨rfl, hb⟩; have n0_ := Aside0.mk (blk_below (g := gv) (o := .cells #[.int .i64 id, .slice A ps.length c, .slice B xs.length d] 25 (0, 0)) (by (with_reducible repeat (first | refine blk_drewN ?_ _ | refine blk_drew ?_ | refine blk_alloc ?_ _)); exact BKgv.out) hb); have n1_ := Aside0.mk (below_step (by repeat (first | (with_reducible first | exact HB.out | apply below_alloc | apply pw_below_drewN | apply below_drew1 | refine below_set ?_ GEgv.out) | exact HB.out)) hb); clear BKgv; clear HB; have BKgv := n0_; have HB := n1_; clear n0_ n1_; clear hb; have hc1_gv_0 : w1.cell? ⟨gv, 0, none⟩ = some (.int .i64 id) := (blk_cell BKgv.out 0).trans rfl; have hf1_gv_0 := blk_frozen BKgv.out 0; have hc1_gv_1 : w1.cell? ⟨gv, 1, none⟩ = some (.slice A ps.length c) := (blk_cell BKgv.out 1).trans rfl; have hf1_gv_1 := blk_frozen BKgv.out 1; have hc1_gv_2 : w1.cell? ⟨gv, 2, none⟩ = some (.slice B xs.length d) := (blk_cell BKgv.out 2).trans rfl; have hf1_gv_2 := blk_frozen BKgv.out 2) | (go_at_call 47; (with_reducible refine (passMay _ _ _ _ (Kd.C_below HRX.out (by repeat (first | (with_reducible first | exact HB.out | apply below_alloc | apply pw_below_drewN | apply below_drew1 | refine below_set ?_ GEgv.out) | exact HB.out))) hd).mono ?_); rintro e w' ⟨rfl, ⟨nd, rfl⟩⟩) | (go_at_call 93; (with_reducible refine (HO.out _ _ (by repeat (first | (with_reducible first | exact HB.out | apply below_alloc | apply pw_below_drewN | apply below_drew1 | refine below_set ?_ GEgv.out) | exact HB.out)) (by (with_reducible repeat (first | refine blk_drewN ?_ _ | refine blk_drew ?_ | refine blk_alloc ?_ _)); exact BKgv.out)).mono ?_); rintro e w2 ⟨rfl, hb⟩; have n0_ := Aside0.mk (blk_below (g := gv) (o := .cells #[.int .i64 id, .slice A ps.length c, .slice B xs.length d] 25 (0, 0)) (by (with_reducible repeat (first | refine blk_drewN ?_ _ | refine blk_drew ?_ | refine blk_alloc ?_ _)); exact BKgv.out) hb); have n1_ := Aside0.mk (below_step (by repeat (first | (with_reducible first | exact HB.out | apply below_alloc | apply pw_below_drewN | apply below_drew1 | refine below_set ?_ GEgv.out) | exact HB.out)) hb); clear BKgv; clear HB; have BKgv := n0_; have HB := n1_; clear n0_ n1_; clear hb; have hc2_gv_0 : w2.cell? ⟨gv, 0, none⟩ = some (.int .i64 id) := (blk_cell BKgv.out 0).trans rfl; have hf2_gv_0 := blk_frozen BKgv.out 0; have hc2_gv_1 : w2.cell? ⟨gv, 1, none⟩ = some (.slice A ps.length c) := (blk_cell BKgv.out 1).trans rfl; have hf2_gv_1 := blk_frozen BKgv.out 1; have hc2_gv_2 : w2.cell? ⟨gv, 2, none⟩ = some (.slice B xs.length d) := (blk_cell BKgv.out 2).trans rfl; have hf2_gv_2 := blk_frozen BKgv.out 2))
 go_ret
 exact ⟨by rw [HT.out]; rfl, by repeat (first | (with_reducible first | exact HB.out | apply below_alloc | apply pw_below_drewN | apply below_drew1 | refine below_set ?_ GEgv.out) | exact HB.out)⟩
theorem viewMay_b (id : Int) (A : Option Addr) (c : Nat) (ps : List S98) (B : Option Addr) (d : Nat) (xs : List Int) (w : World) (hrp : Kd.C k98 w A ps.length ps) (hc : ps.length ≤ c) (hrx : Kd.C (Kd.int .i64) w B xs.length xs) (hd : xs.length ≤ d) (h1 : peersB id ps = true) (h2 : passB xs = false) :
 Calls Tryz.prog 34 #[.agg #[.int .i64 id, .slice A ps.length c, .slice B xs.length d]] w fun e w' => e = .returned (.bool (viewB id ps xs)) ∧ Below w.heap.size w w' := by
 have HB := Aside0.mk (Below.refl w.heap.size w)
 have HRP := Aside0.mk hrp
 have HRX := Aside0.mk hrx
 have hlp : ps.length ≤ 9223372036854775807 := hrp.2.1
 have hlx : xs.length ≤ 9223372036854775807 := hrx.2.1
 have HT := Aside0.mk (show viewB id ps xs = false by unfold viewB; simp [h1, h2])
 skip
 clear hrp hrx
 go_enter Tryz.func34, Tryz.ntmps34
 go_upto_region 1 with (first | ((with_reducible refine gate_dst (N := 1) rfl ?_); refine box_event ?hg (N := 1) ?hd (cs := #[.int .i64 id, .slice A ps.length c, .slice B xs.length d]) (t := 25) ?hr ?_; (case hd => rfl); (case hg => rfl); (case hr => first | (go_simp; done) | (go_simp; rfl)); intro gv hg wgv hbox hb; have n0_ := Aside0.mk (below_step (by repeat (first | (with_reducible first | exact HB.out | apply below_alloc | apply pw_below_drewN | apply below_drew1) | exact HB.out)) hb); have n1_ := Aside0.mk hbox; have n2_ := Aside0.mk ((by rw [hg]; exact (below_size (by repeat (first | (with_reducible first | exact HB.out | apply below_alloc | apply pw_below_drewN | apply below_drew1) | exact HB.out))) : w.heap.size ≤ gv)); clear HB; have HB := n0_; have BKgv := n1_; have GEgv := n2_; clear n0_ n1_ n2_; clear hb hbox hg))
 (try simp only [Act.put, put3])
 have hc0_gv_0 : wgv.cell? ⟨gv, 0, none⟩ = some (.int .i64 id) := (blk_cell BKgv.out 0).trans rfl
 have hf0_gv_0 := blk_frozen BKgv.out 0
 have hc0_gv_1 : wgv.cell? ⟨gv, 1, none⟩ = some (.slice A ps.length c) := (blk_cell BKgv.out 1).trans rfl
 have hf0_gv_1 := blk_frozen BKgv.out 1
 have hc0_gv_2 : wgv.cell? ⟨gv, 2, none⟩ = some (.slice B xs.length d) := (blk_cell BKgv.out 2).trans rfl
 have hf0_gv_2 := blk_frozen BKgv.out 2
 go_wp2_with (first | (go_at_call 43; (with_reducible refine (peersMay _ _ _ _ _ (Kd.C_below HRP.out (by repeat (first | (with_reducible first | exact HB.out | apply below_alloc | apply pw_below_drewN | apply below_drew1 | refine below_set ?_ GEgv.out) | exact HB.out))) hc).mono ?_); rintro e w1 ⟨rfl, hb⟩; have n0_ := Aside0.mk (blk_below (g := gv) (o := .cells #[.int .i64 id, .slice A ps.length c, .slice B xs.length d] 25 (0, 0)) (by (with_reducible repeat (first | refine blk_drewN ?_ _ | refine blk_drew ?_ | refine blk_alloc ?_ _)); exact BKgv.out) hb); have n1_ := Aside0.mk (below_step (by repeat (first | (with_reducible first | exact HB.out | apply below_alloc | apply pw_below_drewN | apply below_drew1 | refine below_set ?_ GEgv.out) | exact HB.out)) hb); clear BKgv; clear HB; have BKgv := n0_; have HB := n1_; clear n0_ n1_; clear hb; have hc1_gv_0 : w1.cell? ⟨gv, 0, none⟩ = some (.int .i64 id) := (blk_cell BKgv.out 0).trans rfl; have hf1_gv_0 := blk_frozen BKgv.out 0; have hc1_gv_1 : w1.cell? ⟨gv, 1, none⟩ = some (.slice A ps.length c) := (blk_cell BKgv.out 1).trans rfl; have hf1_gv_1 := blk_frozen BKgv.out 1; have hc1_gv_2 : w1.cell? ⟨gv, 2, none⟩ = some (.slice B xs.length d) := (blk_cell BKgv.out 2).trans rfl; have hf1_gv_2 := blk_frozen BKgv.out 2) | (go_at_call 47; (with_reducible refine (passMay _ _ _ _ (Kd.C_below HRX.out (by repeat (first | (with_reducible first | exact HB.out | apply below_alloc | apply pw_below_drewN | apply below_drew1 | refine below_set ?_ GEgv.out) | exact HB.out))) hd).mono ?_); rintro e w' ⟨rfl, ⟨nd, rfl⟩⟩) | (go_at_call 93; (with_reducible refine (HO.out _ _ (by repeat (first | (with_reducible first | exact HB.out | apply below_alloc | apply pw_below_drewN | apply below_drew1 | refine below_set ?_ GEgv.out) | exact HB.out)) (by (with_reducible repeat (first | refine blk_drewN ?_ _ | refine blk_drew ?_ | refine blk_alloc ?_ _)); exact BKgv.out)).mono ?_); rintro e w2 ⟨rfl, hb⟩; have n0_ := Aside0.mk (blk_below (g := gv) (o := .cells #[.int .i64 id, .slice A ps.length c, .slice B xs.length d] 25 (0, 0)) (by (with_reducible repeat (first | refine blk_drewN ?_ _ | refine blk_drew ?_ | refine blk_alloc ?_ _)); exact BKgv.out) hb); have n1_ := Aside0.mk (below_step (by repeat (first | (with_reducible first | exact HB.out | apply below_alloc | apply pw_below_drewN | apply below_drew1 | refine below_set ?_ GEgv.out) | exact HB.out)) hb); clear BKgv; clear HB; have BKgv := n0_; have HB := n1_; clear n0_ n1_; clear hb; have hc2_gv_0 : w2.cell? ⟨gv, 0, none⟩ = some (.int .i64 id) := (blk_cell BKgv.out 0).trans rfl; have hf2_gv_0 := blk_frozen BKgv.out 0; have hc2_gv_1 : w2.cell? ⟨gv, 1, none⟩ = some (.slice A ps.length c) := (blk_cell BKgv.out 1).trans rfl; have hf2_gv_1 := blk_frozen BKgv.out 1; have hc2_gv_2 : w2.cell? ⟨gv, 2, none⟩ = some (.slice B xs.length d) := (blk_cell BKgv.out 2).trans rfl; have hf2_gv_2 := blk_frozen BKgv.out 2))
 go_ret
 exact ⟨by rw [HT.out]; rfl, by repeat (first | (with_reducible first | exact HB.out | apply below_alloc | apply pw_below_drewN | apply below_drew1 | refine below_set ?_ GEgv.out) | exact HB.out)⟩
theorem viewMay_c (id : Int) (A : Option Addr) (c : Nat) (ps : List S98) (B : Option Addr) (d : Nat) (xs : List Int) (w : World) (hrp : Kd.C k98 w A ps.length ps) (hc : ps.length ≤ c) (hrx : Kd.C (Kd.int .i64) w B xs.length xs) (hd : xs.length ≤ d) (h1 : peersB id ps = true) (h2 : passB xs = true) (h3 : ¬ ps.length + xs.length ≤ 16) :
 Calls Tryz.prog 34 #[.agg #[.int .i64 id, .slice A ps.length c, .slice B xs.length d]] w fun e w' => e = .returned (.bool (viewB id ps xs)) ∧ Below w.heap.size w w' := by
 have HB := Aside0.mk (Below.refl w.heap.size w)
 have HRP := Aside0.mk hrp
 have HRX := Aside0.mk hrx
 have hlp : ps.length ≤ 9223372036854775807 := hrp.2.1
 have hlx : xs.length ≤ 9223372036854775807 := hrx.2.1
 have HT := Aside0.mk (show viewB id ps xs = false by unfold viewB; simp [h1, h2, h3])
 have hgt : (16 : Int) < (ps.length : Int) + (xs.length : Int) := by omega
 have hp16 := (peersB_base h1).2
 have hx16 := passB_len h2
 clear hrp hrx
 go_enter Tryz.func34, Tryz.ntmps34
 go_upto_region 1 with (first | ((with_reducible refine gate_dst (N := 1) rfl ?_); refine box_event ?hg (N := 1) ?hd (cs := #[.int .i64 id, .slice A ps.length c, .slice B xs.length d]) (t := 25) ?hr ?_; (case hd => rfl); (case hg => rfl); (case hr => first | (go_simp; done) | (go_simp; rfl)); intro gv hg wgv hbox hb; have n0_ := Aside0.mk (below_step (by repeat (first | (with_reducible first | exact HB.out | apply below_alloc | apply pw_below_drewN | apply below_drew1) | exact HB.out)) hb); have n1_ := Aside0.mk hbox; have n2_ := Aside0.mk ((by rw [hg]; exact (below_size (by repeat (first | (with_reducible first | exact HB.out | apply below_alloc | apply pw_below_drewN | apply below_drew1) | exact HB.out))) : w.heap.size ≤ gv)); clear HB; have HB := n0_; have BKgv := n1_; have GEgv := n2_; clear n0_ n1_ n2_; clear hb hbox hg))
 (try simp only [Act.put, put3])
 have hc0_gv_0 : wgv.cell? ⟨gv, 0, none⟩ = some (.int .i64 id) := (blk_cell BKgv.out 0).trans rfl
 have hf0_gv_0 := blk_frozen BKgv.out 0
 have hc0_gv_1 : wgv.cell? ⟨gv, 1, none⟩ = some (.slice A ps.length c) := (blk_cell BKgv.out 1).trans rfl
 have hf0_gv_1 := blk_frozen BKgv.out 1
 have hc0_gv_2 : wgv.cell? ⟨gv, 2, none⟩ = some (.slice B xs.length d) := (blk_cell BKgv.out 2).trans rfl
 have hf0_gv_2 := blk_frozen BKgv.out 2
 go_wp2_with (first | (go_at_call 43; (with_reducible refine (peersMay _ _ _ _ _ (Kd.C_below HRP.out (by repeat (first | (with_reducible first | exact HB.out | apply below_alloc | apply pw_below_drewN | apply below_drew1 | refine below_set ?_ GEgv.out) | exact HB.out))) hc).mono ?_); rintro e w1 ⟨rfl, hb⟩; have n0_ := Aside0.mk (blk_below (g := gv) (o := .cells #[.int .i64 id, .slice A ps.length c, .slice B xs.length d] 25 (0, 0)) (by (with_reducible repeat (first | refine blk_drewN ?_ _ | refine blk_drew ?_ | refine blk_alloc ?_ _)); exact BKgv.out) hb); have n1_ := Aside0.mk (below_step (by repeat (first | (with_reducible first | exact HB.out | apply below_alloc | apply pw_below_drewN | apply below_drew1 | refine below_set ?_ GEgv.out) | exact HB.out)) hb); clear BKgv; clear HB; have BKgv := n0_; have HB := n1_; clear n0_ n1_; clear hb; have hc1_gv_0 : w1.cell? ⟨gv, 0, none⟩ = some (.int .i64 id) := (blk_cell BKgv.out 0).trans rfl; have hf1_gv_0 := blk_frozen BKgv.out 0; have hc1_gv_1 : w1.cell? ⟨gv, 1, none⟩ = some (.slice A ps.length c) := (blk_cell BKgv.out 1).trans rfl; have hf1_gv_1 := blk_frozen BKgv.out 1; have hc1_gv_2 : w1.cell? ⟨gv, 2, none⟩ = some (.slice B xs.length d) := (blk_cell BKgv.out 2).trans rfl; have hf1_gv_2 := blk_frozen BKgv.out 2) | (go_at_call 47; (with_reducible refine (passMay _ _ _ _ (Kd.C_below HRX.out (by repeat (first | (with_reducible first | exact HB.out | apply below_alloc | apply pw_below_drewN | apply below_drew1 | refine below_set ?_ GEgv.out) | exact HB.out))) hd).mono ?_); rintro e w' ⟨rfl, ⟨nd, rfl⟩⟩) | (go_at_call 93; (with_reducible refine (HO.out _ _ (by repeat (first | (with_reducible first | exact HB.out | apply below_alloc | apply pw_below_drewN | apply below_drew1 | refine below_set ?_ GEgv.out) | exact HB.out)) (by (with_reducible repeat (first | refine blk_drewN ?_ _ | refine blk_drew ?_ | refine blk_alloc ?_ _)); exact BKgv.out)).mono ?_); rintro e w2 ⟨rfl, hb⟩; have n0_ := Aside0.mk (blk_below (g := gv) (o := .cells #[.int .i64 id, .slice A ps.length c, .slice B xs.length d] 25 (0, 0)) (by (with_reducible repeat (first | refine blk_drewN ?_ _ | refine blk_drew ?_ | refine blk_alloc ?_ _)); exact BKgv.out) hb); have n1_ := Aside0.mk (below_step (by repeat (first | (with_reducible first | exact HB.out | apply below_alloc | apply pw_below_drewN | apply below_drew1 | refine below_set ?_ GEgv.out) | exact HB.out)) hb); clear BKgv; clear HB; have BKgv := n0_; have HB := n1_; clear n0_ n1_; clear hb; have hc2_gv_0 : w2.cell? ⟨gv, 0, none⟩ = some (.int .i64 id) := (blk_cell BKgv.out 0).trans rfl; have hf2_gv_0 := blk_frozen BKgv.out 0; have hc2_gv_1 : w2.cell? ⟨gv, 1, none⟩ = some (.slice A ps.length c) := (blk_cell BKgv.out 1).trans rfl; have hf2_gv_1 := blk_frozen BKgv.out 1; have hc2_gv_2 : w2.cell? ⟨gv, 2, none⟩ = some (.slice B xs.length d) := (blk_cell BKgv.out 2).trans rfl; have hf2_gv_2 := blk_frozen BKgv.out 2))
 go_ret
 exact ⟨by rw [HT.out]; rfl, by repeat (first | (with_reducible first | exact HB.out | apply below_alloc | apply pw_below_drewN | apply below_drew1 | refine below_set ?_ GEgv.out) | exact HB.out)⟩
theorem viewMay_d (id : Int) (A : Option Addr) (c : Nat) (ps : List S98) (B : Option Addr) (d : Nat) (xs : List Int) (w : World) (hrp : Kd.C k98 w A ps.length ps) (hc : ps.length ≤ c) (hrx : Kd.C (Kd.int .i64) w B xs.length xs) (hd : xs.length ≤ d) (h1 : peersB id ps = true) (h2 : passB xs = true) (h3 : ps.length + xs.length ≤ 16) :
 Calls Tryz.prog 34 #[.agg #[.int .i64 id, .slice A ps.length c, .slice B xs.length d]] w fun e w' => e = .returned (.bool (viewB id ps xs)) ∧ Below w.heap.size w w' := by
 have HB := Aside0.mk (Below.refl w.heap.size w)
 have HRP := Aside0.mk hrp
 have HRX := Aside0.mk hrx
 have hlp : ps.length ≤ 9223372036854775807 := hrp.2.1
 have hlx : xs.length ≤ 9223372036854775807 := hrx.2.1
 have HT := Aside0.mk (show viewB id ps xs = !(xs.any fun x => x == id || knownB ps x) by unfold viewB; simp [h1, h2, h3])
 have HO := Aside0.mk (fun (g : Nat) (W : World) (hb : Below w.heap.size w W) (hk : W.heap[g]? = some (.cells #[.int .i64 id, .slice A ps.length c, .slice B xs.length d] 25 (0, 0))) => anyInt 97 #[.pointer (some ⟨g, 0, none⟩)] (enters_of Tryz.func97 (by kernel_rfl) rfl) (fun x => x == id || knownB ps x) B d xs W (Kd.C_below hrx hb) hd
  (fun W1 hb1 i hi => viewOdd id xs[i] ⟨g, 0, none⟩ A c ps B d xs W1 ⟨(blk_cell (blk_below hk hb1) 0).trans rfl, (blk_cell (blk_below hk hb1) 1).trans rfl, (blk_cell (blk_below hk hb1) 2).trans rfl⟩ (Kd.C_below (Kd.C_below hrp hb) hb1) hc h1 (passB_at h2 hi).1))
 have hp16 := (peersB_base h1).2
 have hx16 := passB_len h2
 have hgt : ¬ (16 : Int) < (ps.length : Int) + (xs.length : Int) := by omega
 clear hrp hrx
 go_enter Tryz.func34, Tryz.ntmps34
 go_upto_region 1 with (first | ((with_reducible refine gate_dst (N := 1) rfl ?_); refine box_event ?hg (N := 1) ?hd (cs := #[.int .i64 id, .slice A ps.length c, .slice B xs.length d]) (t := 25) ?hr ?_; (case hd => rfl); (case hg => rfl); (case hr => first | (go_simp; done) | (go_simp; rfl)); intro gv hg wgv hbox hb; have n0_ := Aside0.mk (below_step (by repeat (first | (with_reducible first | exact HB.out | apply below_alloc | apply pw_below_drewN | apply below_drew1) | exact HB.out)) hb); have n1_ := Aside0.mk hbox; have n2_ := Aside0.mk ((by rw [hg]; exact (below_size (by repeat (first | (with_reducible first | exact HB.out | apply below_alloc | apply pw_below_drewN | apply below_drew1) | exact HB.out))) : w.heap.size ≤ gv)); clear HB; have HB := n0_; have BKgv := n1_; have GEgv := n2_; clear n0_ n1_ n2_; clear hb hbox hg))
 (try simp only [Act.put, put3])
 have hc0_gv_0 : wgv.cell? ⟨gv, 0, none⟩ = some (.int .i64 id) := (blk_cell BKgv.out 0).trans rfl
 have hf0_gv_0 := blk_frozen BKgv.out 0
 have hc0_gv_1 : wgv.cell? ⟨gv, 1, none⟩ = some (.slice A ps.length c) := (blk_cell BKgv.out 1).trans rfl
 have hf0_gv_1 := blk_frozen BKgv.out 1
 have hc0_gv_2 : wgv.cell? ⟨gv, 2, none⟩ = some (.slice B xs.length d) := (blk_cell BKgv.out 2).trans rfl
 have hf0_gv_2 := blk_frozen BKgv.out 2
 go_wp2_with (first | (go_at_call 43; (with_reducible refine (peersMay _ _ _ _ _ (Kd.C_below HRP.out (by repeat (first | (with_reducible first | exact HB.out | apply below_alloc | apply pw_below_drewN | apply below_drew1 | refine below_set ?_ GEgv.out) | exact HB.out))) hc).mono ?_); rintro e w1 ⟨rfl, hb⟩; have n0_ := Aside0.mk (blk_below (g := gv) (o := .cells #[.int .i64 id, .slice A ps.length c, .slice B xs.length d] 25 (0, 0)) (by (with_reducible repeat (first | refine blk_drewN ?_ _ | refine blk_drew ?_ | refine blk_alloc ?_ _)); exact BKgv.out) hb); have n1_ := Aside0.mk (below_step (by repeat (first | (with_reducible first | exact HB.out | apply below_alloc | apply pw_below_drewN | apply below_drew1 | refine below_set ?_ GEgv.out) | exact HB.out)) hb); clear BKgv; clear HB; have BKgv := n0_; have HB := n1_; clear n0_ n1_; clear hb; have hc1_gv_0 : w1.cell? ⟨gv, 0, none⟩ = some (.int .i64 id) := (blk_cell BKgv.out 0).trans rfl; have hf1_gv_0 := blk_frozen BKgv.out 0; have hc1_gv_1 : w1.cell? ⟨gv, 1, none⟩ = some (.slice A ps.length c) := (blk_cell BKgv.out 1).trans rfl; have hf1_gv_1 := blk_frozen BKgv.out 1; have hc1_gv_2 : w1.cell? ⟨gv, 2, none⟩ = some (.slice B xs.length d) := (blk_cell BKgv.out 2).trans rfl; have hf1_gv_2 := blk_frozen BKgv.out 2) | (go_at_call 47; (with_reducible refine (passMay _ _ _ _ (Kd.C_below HRX.out (by repeat (first | (with_reducible first | exact HB.out | apply below_alloc | apply pw_below_drewN | apply below_drew1 | refine below_set ?_ GEgv.out) | exact HB.out))) hd).mono ?_); rintro e w' ⟨rfl, ⟨nd, rfl⟩⟩) | (go_at_call 93; (with_reducible refine (HO.out _ _ (by repeat (first | (with_reducible first | exact HB.out | apply below_alloc | apply pw_below_drewN | apply below_drew1 | refine below_set ?_ GEgv.out) | exact HB.out)) (by (with_reducible repeat (first | refine blk_drewN ?_ _ | refine blk_drew ?_ | refine blk_alloc ?_ _)); exact BKgv.out)).mono ?_); rintro e w2 ⟨rfl, hb⟩; have n0_ := Aside0.mk (blk_below (g := gv) (o := .cells #[.int .i64 id, .slice A ps.length c, .slice B xs.length d] 25 (0, 0)) (by (with_reducible repeat (first | refine blk_drewN ?_ _ | refine blk_drew ?_ | refine blk_alloc ?_ _)); exact BKgv.out) hb); have n1_ := Aside0.mk (below_step (by repeat (first | (with_reducible first | exact HB.out | apply below_alloc | apply pw_below_drewN | apply below_drew1 | refine below_set ?_ GEgv.out) | exact HB.out)) hb); clear BKgv; clear HB; have BKgv := n0_; have HB := n1_; clear n0_ n1_; clear hb; have hc2_gv_0 : w2.cell? ⟨gv, 0, none⟩ = some (.int .i64 id) := (blk_cell BKgv.out 0).trans rfl; have hf2_gv_0 := blk_frozen BKgv.out 0; have hc2_gv_1 : w2.cell? ⟨gv, 1, none⟩ = some (.slice A ps.length c) := (blk_cell BKgv.out 1).trans rfl; have hf2_gv_1 := blk_frozen BKgv.out 1; have hc2_gv_2 : w2.cell? ⟨gv, 2, none⟩ = some (.slice B xs.length d) := (blk_cell BKgv.out 2).trans rfl; have hf2_gv_2 := blk_frozen BKgv.out 2))
 go_ret
 exact ⟨by rw [HT.out]; rfl, by repeat (first | (with_reducible first | exact HB.out | apply below_alloc | apply pw_below_drewN | apply below_drew1 | refine below_set ?_ GEgv.out) | exact HB.out)⟩
theorem viewMay (id : Int) (A : Option Addr) (c : Nat) (ps : List S98) (B : Option Addr) (d : Nat) (xs : List Int) (w : World) (hrp : Kd.C k98 w A ps.length ps) (hc : ps.length ≤ c) (hrx : Kd.C (Kd.int .i64) w B xs.length xs) (hd : xs.length ≤ d) :
 Calls Tryz.prog 34 #[.agg #[.int .i64 id, .slice A ps.length c, .slice B xs.length d]] w fun e w' => e = .returned (.bool (viewB id ps xs)) ∧ Below w.heap.size w w' := by
 cases h1 : peersB id ps
 ·exact viewMay_a id A c ps B d xs w hrp hc hrx hd h1
 ·cases h2 : passB xs
  ·exact viewMay_b id A c ps B d xs w hrp hc hrx hd h1 h2
  ·by_cases h3 : ps.length + xs.length ≤ 16
   ·exact viewMay_d id A c ps B d xs w hrp hc hrx hd h1 h2 h3
   ·exact viewMay_c id A c ps B d xs w hrp hc hrx hd h1 h2 h3
end Go.Proofs.YtljipbmmgcccnaaGreat.T
end
