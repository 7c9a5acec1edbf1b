/- Words and lemmas that the claim's proof names, part 17: what the program's functions answer, at the inputs that each theorem's premises name. Conditions: each theorem's own premises. -/
import Derived.Test.YtljipbmmgcccnaaGreatKP16
section
namespace Go.Proofs.YtljipbmmgcccnaaGreat.T
open Go.RowKit Go.Proofs.YtljipbmmgcccnaaGreatW.PrintWords Go.Proofs.YtljipbmmgcccnaaGreatW.PrintLast Go.Proofs.YtljipbmmgcccnaaGreatW.PrintMore
attribute [local go_sem] cell_tc frozen_tc max2_int min2_int
attribute [local go_sem ↓] Go.wp_at_zero Go.wp_at_succ
set_option linter.unusedVariables false
set_option linter.unusedSimpArgs false
set_option synthInstance.maxHeartbeats 400000
set_option synthInstance.maxSize 512
section
attribute [local go_sem] cell_tc2
attribute [local go_sem high] eqA46 eqA98 eqA77 eqA48
set_option maxHeartbeats 4000000 in
theorem sameItems_ {A B : Option Addr} {n c m d : Nat} {l r : List S48} {w : World} [h : Sr k48 w A n c l] [g : Sr k48 w B m d r] :
 Calls Tryz.prog 82 #[.slice A n c, .slice B m d] w fun e w' => e = .returned (.bool (decide (l = r))) ∧ BelL w w' := by
 obtain rfl := h.len
 obtain rfl := g.len
 have HS := sr_l h
 have HT := sr_l g
 have hlen : l.length ≤ 9223372036854775807 := h.C.2.1
 have hlen2 : r.length ≤ 9223372036854775807 := g.C.2.1
 clear h g
 go_enter Tryz.func82, Tryz.ntmps82
 by_cases hl : l.length = r.length
 ·have HL := Aside0.mk hl
  have hlb : ((l.length : Int) == (r.length : Int)) = true := by rw [hl]; exact beq_self_eq_true _
  have hlr : l.length ≤ r.length := Nat.le_of_eq hl
  have hrl : r.length ≤ l.length := Nat.le_of_eq hl.symm
  clear hl
  go_wp2
  go_loopg [5] l.length (fun kq v5 w' => ∃ i : Nat, v5 = .int .i64 i ∧ i ≤ l.length ∧ kq = l.length - i ∧ Aside0 (l.take i = r.take i) ∧ BelL w w')
  case atStart => exact ⟨0, rfl, Nat.zero_le _, rfl, ⟨rfl⟩, belL⟩
  case round =>
   obtain ⟨i, rfl, hi, rfl, HA, hbr⟩ := hrel
   by_cases hlt : i < l.length
   ·have hlt2 : i < r.length := by omega
    obtain ⟨a1, rfl, x0, x1, x2, x3, x4⟩ := el_T48 (W := wr) (A := A) (n := l.length) (c := c) (l := l) i hlt
    obtain ⟨a2, rfl, y0, y1, y2, y3, y4⟩ := el_T48 (W := wr) (A := B) (n := r.length) (c := d) (l := r) i hlt2
    by_cases hxy : l[i] = r[i]
    ·have HX := Aside0.mk (show l.take (i + 1) = r.take (i + 1) by rw [List.take_succ_eq_append_getElem hlt, List.take_succ_eq_append_getElem hlt2, HA.out, hxy])
     rw [hxy] at x0 x1 x2 x3 x4
     clear hxy HA
     go_upto_region 6 with (fail)
     (refine wp_region_bel (by kernel_rfl) (by kernel_rfl) ?_; (repeat (first | go_big_quiet_skip | (go_big_quiet_want; first | (go_big_quiet_op; go_big_quiet_on) | (apply Exists.intro; refine ⟨fun wq hq => ?_, ?_⟩; (focus (unfold Oper.quietAt; go_simp; first | done | exact ⟨rfl, rfl⟩ | exact rfl)); (try simp only [Act.put, put3]); go_big_quiet_on)))); refine wpQuiet_nil ?_; intro w7 hb7)
     go_wp2
     go_roundg (l.length - (i + 1))
     case measure => omega
     case rel => exact ⟨i + 1, by go_num, by omega, rfl, HX, belL⟩
    ·have HN := Aside0.mk (show decide (l = r) = false from decide_eq_false fun he => hxy (by subst he; rfl))
     have hne : (l[i].f0 == r[i].f0 && ((l[i].f1.f0 == r[i].f1.f0 && l[i].f1.f1 == r[i].f1.f1) && (l[i].f2 == r[i].f2 && l[i].f3 == r[i].f3))) = false := by
      rw [Bool.eq_false_iff]
      intro hh
      apply hxy
      generalize l[i] = x at hh ⊢
      generalize r[i] = y at hh ⊢
      simp only [Bool.and_eq_true, beq_iff_eq] at hh
      obtain ⟨a, ⟨b, b2⟩, c, d⟩ := x
      obtain ⟨e, ⟨f, f2⟩, g, h⟩ := y
      simp only at hh
      simp [hh]
     have hne2 : (l[i].f0 == r[i].f0 && (l[i].f1.f0 == r[i].f1.f0 && (l[i].f1.f1 == r[i].f1.f1 && (l[i].f2 == r[i].f2 && l[i].f3 == r[i].f3)))) = false := by rw [← hne]; simp only [Bool.and_assoc]
     clear hxy HA
     go_upto_region 6 with (fail)
     (refine wp_region_bel (by kernel_rfl) (by kernel_rfl) ?_; (repeat (first | go_big_quiet_skip | (go_big_quiet_want; first | (go_big_quiet_op; go_big_quiet_on) | (apply Exists.intro; refine ⟨fun wq hq => ?_, ?_⟩; (focus (unfold Oper.quietAt; go_simp; first | done | exact ⟨rfl, rfl⟩ | exact rfl)); (try simp only [Act.put, put3]); go_big_quiet_on)))); refine wpQuiet_nil ?_; intro w7 hb7)
     go_wp2
     go_ret
     exact ⟨by rw [HN.out]; rfl, belL⟩
   ·obtain rfl : i = l.length := by omega
    have HN := Aside0.mk (show decide (l = r) = true from decide_eq_true (by have := HA.out; rw [List.take_length] at this; rw [this, HL.out, List.take_length]))
    go_wp2
    go_ret
    exact ⟨by rw [HN.out]; rfl, belL⟩
 ·have HN := Aside0.mk (show decide (l = r) = false from decide_eq_false fun he => hl (by rw [he]))
  have hlb : ((l.length : Int) == (r.length : Int)) = false := by simpa using fun h : (l.length : Int) = r.length => hl (by omega)
  go_wp2
  go_ret
  exact ⟨by rw [HN.out]; rfl, belL⟩
set_option maxHeartbeats 4000000 in
theorem sameTolds_ {A B : Option Addr} {n c m d : Nat} {l r : List S77} {w : World} [h : Sr k77 w A n c l] [g : Sr k77 w B m d r] :
 Calls Tryz.prog 83 #[.slice A n c, .slice B m d] w fun e w' => e = .returned (.bool (decide (l = r))) ∧ BelL w w' := by
 obtain rfl := h.len
 obtain rfl := g.len
 have HS := sr_l h
 have HT := sr_l g
 have hlen : l.length ≤ 9223372036854775807 := h.C.2.1
 have hlen2 : r.length ≤ 9223372036854775807 := g.C.2.1
 clear h g
 go_enter Tryz.func83, Tryz.ntmps83
 by_cases hl : l.length = r.length
 ·have HL := Aside0.mk hl
  have hlb : ((l.length : Int) == (r.length : Int)) = true := by rw [hl]; exact beq_self_eq_true _
  have hlr : l.length ≤ r.length := Nat.le_of_eq hl
  have hrl : r.length ≤ l.length := Nat.le_of_eq hl.symm
  clear hl
  go_wp2
  go_loopg [5] l.length (fun kq v5 w' => ∃ i : Nat, v5 = .int .i64 i ∧ i ≤ l.length ∧ kq = l.length - i ∧ Aside0 (l.take i = r.take i) ∧ BelL w w')
  case atStart => exact ⟨0, rfl, Nat.zero_le _, rfl, ⟨rfl⟩, belL⟩
  case round =>
   obtain ⟨i, rfl, hi, rfl, HA, hbr⟩ := hrel
   by_cases hlt : i < l.length
   ·have hlt2 : i < r.length := by omega
    obtain ⟨a1, rfl, x0, x1, x2⟩ := el_T77 (W := wr) (A := A) (n := l.length) (c := c) (l := l) i hlt
    obtain ⟨a2, rfl, y0, y1, y2⟩ := el_T77 (W := wr) (A := B) (n := r.length) (c := d) (l := r) i hlt2
    by_cases hxy : l[i] = r[i]
    ·have HX := Aside0.mk (show l.take (i + 1) = r.take (i + 1) by rw [List.take_succ_eq_append_getElem hlt, List.take_succ_eq_append_getElem hlt2, HA.out, hxy])
     rw [hxy] at x0 x1 x2
     clear hxy HA
     go_upto_region 6 with (fail)
     (refine wp_region_bel (by kernel_rfl) (by kernel_rfl) ?_; (repeat (first | go_big_quiet_skip | (go_big_quiet_want; first | (go_big_quiet_op; go_big_quiet_on) | (apply Exists.intro; refine ⟨fun wq hq => ?_, ?_⟩; (focus (unfold Oper.quietAt; go_simp; first | done | exact ⟨rfl, rfl⟩ | exact rfl)); (try simp only [Act.put, put3]); go_big_quiet_on)))); refine wpQuiet_nil ?_; intro w7 hb7)
     go_wp2
     go_roundg (l.length - (i + 1))
     case measure => omega
     case rel => exact ⟨i + 1, by go_num, by omega, rfl, HX, belL⟩
    ·have HN := Aside0.mk (show decide (l = r) = false from decide_eq_false fun he => hxy (by subst he; rfl))
     have hne : (l[i].f0 == r[i].f0 && (l[i].f1 == r[i].f1 && l[i].f2 == r[i].f2)) = false := by
      rw [Bool.eq_false_iff]
      intro hh
      apply hxy
      generalize l[i] = x at hh ⊢
      generalize r[i] = y at hh ⊢
      simp only [Bool.and_eq_true, beq_iff_eq] at hh
      obtain ⟨a, b, c⟩ := x
      obtain ⟨e, f, g⟩ := y
      simp only at hh
      simp [hh]
     clear hxy HA
     go_upto_region 6 with (fail)
     (refine wp_region_bel (by kernel_rfl) (by kernel_rfl) ?_; (repeat (first | go_big_quiet_skip | (go_big_quiet_want; first | (go_big_quiet_op; go_big_quiet_on) | (apply Exists.intro; refine ⟨fun wq hq => ?_, ?_⟩; (focus (unfold Oper.quietAt; go_simp; first | done | exact ⟨rfl, rfl⟩ | exact rfl)); (try simp only [Act.put, put3]); go_big_quiet_on)))); refine wpQuiet_nil ?_; intro w7 hb7)
     go_wp2
     go_ret
     exact ⟨by rw [HN.out]; rfl, belL⟩
   ·obtain rfl : i = l.length := by omega
    have HN := Aside0.mk (show decide (l = r) = true from decide_eq_true (by have := HA.out; rw [List.take_length] at this; rw [this, HL.out, List.take_length]))
    go_wp2
    go_ret
    exact ⟨by rw [HN.out]; rfl, belL⟩
 ·have HN := Aside0.mk (show decide (l = r) = false from decide_eq_false fun he => hl (by rw [he]))
  have hlb : ((l.length : Int) == (r.length : Int)) = false := by simpa using fun h : (l.length : Int) = r.length => hl (by omega)
  go_wp2
  go_ret
  exact ⟨by rw [HN.out]; rfl, belL⟩
theorem same_no {x y : S40} (h : (x.f0 == y.f0 && ((x.f1.f0 == y.f1.f0 && (decide (x.f1.f1 = y.f1.f1) && decide (x.f1.f2 = y.f1.f2))) && (decide (x.f2 = y.f2) && decide (x.f3 = y.f3)))) = false) : x ≠ y := by
 rintro rfl
 simp at h
set_option maxHeartbeats 4000000 in
theorem sameNode_ {u1 u2 : Bool} {i1 i2 : Int} {A1 A2 B1 B2 I1 I2 L1 L2 : Option Addr} {n1 n2 c1 c2 m1 m2 d1 d2 ni1 ni2 ci1 ci2 nl1 nl2 cl1 cl2 : Nat} {p1 p2 : List S98} {x1 x2 : List Int} {t1 t2 : List S48} {l1 l2 : List S77} {w : World}
 [h1 : Sr k98 w A1 n1 c1 p1] [h2 : Sr kI w B1 m1 d1 x1] [h3 : Sr k48 w I1 ni1 ci1 t1] [h4 : Sr k77 w L1 nl1 cl1 l1] [g1 : Sr k98 w A2 n2 c2 p2] [g2 : Sr kI w B2 m2 d2 x2] [g3 : Sr k48 w I2 ni2 ci2 t2] [g4 : Sr k77 w L2 nl2 cl2 l2] :
 Calls Tryz.prog 28 #[.agg #[.bool u1, .int .i64 i1, .slice A1 n1 c1, .slice B1 m1 d1, .slice I1 ni1 ci1, .slice L1 nl1 cl1], .agg #[.bool u2, .int .i64 i2, .slice A2 n2 c2, .slice B2 m2 d2, .slice I2 ni2 ci2, .slice L2 nl2 cl2]] w fun e w' => e = .returned (.bool (u1 == u2 && ((i1 == i2 && (decide (p1 = p2) && decide (x1 = x2))) && (decide (t1 = t2) && decide (l1 = l2))))) ∧ BelL w w' := by
 have s1 := sr_l h1
 have s2 := sr_l h2
 have s3 := sr_l h3
 have s4 := sr_l h4
 have s5 := sr_l g1
 have s6 := sr_l g2
 have s7 := sr_l g3
 have s8 := sr_l g4
 clear h1 h2 h3 h4 g1 g2 g3 g4
 generalize hv : (i1 == i2 && (decide (p1 = p2) && decide (x1 = x2))) = bv
 generalize ht : decide (t1 = t2) = bt
 generalize hl : decide (l1 = l2) = bl
 have H2 := Aside0.mk hv
 have H3 := Aside0.mk ht
 have H4 := Aside0.mk hl
 clear hv ht hl
 cases h1 : (u1 == u2)
 ·go_enter Tryz.func28, Tryz.ntmps28
  go_wp2_with (first | (with_reducible refine box_tc rfl (N := 2) rfl (cs := #[.bool u1, .int .i64 i1, .slice A1 n1 c1, .slice B1 m1 d1, .slice I1 ni1 ci1, .slice L1 nl1 cl1]) (t := 40) ?hr ?_; (case hr => go_simp <;> rfl); intro g2 wg2 _ _ _) | (with_reducible refine box_tc rfl (N := 3) rfl (cs := #[.bool u2, .int .i64 i2, .slice A2 n2 c2, .slice B2 m2 d2, .slice I2 ni2 ci2, .slice L2 nl2 cl2]) (t := 40) ?hr ?_; (case hr => go_simp <;> rfl); intro g3 wg3 _ _ _) | (go_at_call 12; (with_reducible refine cM (sameView_ (p1 := p1) (x1 := x1) (p2 := p2) (x2 := x2)) ?_); rw [H2.out]; rintro e wv ⟨rfl, hbv⟩) | (go_at_call 82; (with_reducible refine cM (sameItems_ (l := t1) (r := t2)) ?_); rw [H3.out]; rintro e wt ⟨rfl, hbt⟩) | (go_at_call 83; (with_reducible refine cM (sameTolds_ (l := l1) (r := l2)) ?_); rw [H4.out]; rintro e wl ⟨rfl, hbl⟩))
  go_ret
  exact ⟨rfl, belL⟩
 ·cases bv
  ·go_enter Tryz.func28, Tryz.ntmps28
   go_wp2_with (first | (with_reducible refine box_tc rfl (N := 2) rfl (cs := #[.bool u1, .int .i64 i1, .slice A1 n1 c1, .slice B1 m1 d1, .slice I1 ni1 ci1, .slice L1 nl1 cl1]) (t := 40) ?hr ?_; (case hr => go_simp <;> rfl); intro g2 wg2 _ _ _) | (with_reducible refine box_tc rfl (N := 3) rfl (cs := #[.bool u2, .int .i64 i2, .slice A2 n2 c2, .slice B2 m2 d2, .slice I2 ni2 ci2, .slice L2 nl2 cl2]) (t := 40) ?hr ?_; (case hr => go_simp <;> rfl); intro g3 wg3 _ _ _) | (go_at_call 12; (with_reducible refine cM (sameView_ (p1 := p1) (x1 := x1) (p2 := p2) (x2 := x2)) ?_); rw [H2.out]; rintro e wv ⟨rfl, hbv⟩) | (go_at_call 82; (with_reducible refine cM (sameItems_ (l := t1) (r := t2)) ?_); rw [H3.out]; rintro e wt ⟨rfl, hbt⟩) | (go_at_call 83; (with_reducible refine cM (sameTolds_ (l := l1) (r := l2)) ?_); rw [H4.out]; rintro e wl ⟨rfl, hbl⟩))
   go_ret
   exact ⟨rfl, belL⟩
  ·cases bt
   all_goals
    go_enter Tryz.func28, Tryz.ntmps28
    go_wp2_with (first | (with_reducible refine box_tc rfl (N := 2) rfl (cs := #[.bool u1, .int .i64 i1, .slice A1 n1 c1, .slice B1 m1 d1, .slice I1 ni1 ci1, .slice L1 nl1 cl1]) (t := 40) ?hr ?_; (case hr => go_simp <;> rfl); intro g2 wg2 _ _ _) | (with_reducible refine box_tc rfl (N := 3) rfl (cs := #[.bool u2, .int .i64 i2, .slice A2 n2 c2, .slice B2 m2 d2, .slice I2 ni2 ci2, .slice L2 nl2 cl2]) (t := 40) ?hr ?_; (case hr => go_simp <;> rfl); intro g3 wg3 _ _ _) | (go_at_call 12; (with_reducible refine cM (sameView_ (p1 := p1) (x1 := x1) (p2 := p2) (x2 := x2)) ?_); rw [H2.out]; rintro e wv ⟨rfl, hbv⟩) | (go_at_call 82; (with_reducible refine cM (sameItems_ (l := t1) (r := t2)) ?_); rw [H3.out]; rintro e wt ⟨rfl, hbt⟩) | (go_at_call 83; (with_reducible refine cM (sameTolds_ (l := l1) (r := l2)) ?_); rw [H4.out]; rintro e wl ⟨rfl, hbl⟩))
    go_ret
    exact ⟨rfl, belL⟩
end
end Go.Proofs.YtljipbmmgcccnaaGreat.T
end
section
namespace Go.Proofs.YtljipbmmgcccnaaGreat.T
set_option linter.unusedVariables false
theorem items_few {ns : List S40} (h : Calm ns) : (itemsN ns).length ≤ 500000 := by
 obtain ⟨_, h2, h3, _⟩ := nodesB_iff.1 (mayB_iff.1 h).1
 simp only at h2 h3
 have key : ∀ l : List S40, (∀ x ∈ l, nodeB x = true) → (itemsN l).length ≤ 16 * l.length := by
  intro l
  induction l with
  | nil => intro _; simp [itemsN]
  | cons x r ih =>
    intro hx
    have h1 := ih fun y hy => hx y (List.mem_cons_of_mem _ hy)
    have h4 := storeB_len (nodeB_iff.1 (hx x (List.mem_cons_self ..))).2.2.1
    unfold itemsN at h1 ⊢
    simp only [List.flatMap_cons, List.length_append, List.length_cons]
    omega
 have := key ns h3
 omega
theorem get_okW {ns : List S40} (h : Calm ns) (hA : AllUp ns) {j : Nat} {x : S40} {k : Int} (hx : ns[j]? = some x) (hk : placeB k = true) : OkW (getW (ns, []) (nid x) k) ∧ (getW (ns, []) (nid x) k).1.length = ns.length := by
 obtain ⟨g1, g2⟩ := get_may h hx (hA x (List.mem_of_getElem? hx)) hk
 have hpj : placeN ns (nid x) = j := place_of h hx
 have e : getW (ns, []) (nid x) k = (ns.set j (getN x k), getM x k) := by
  unfold getW
  simp only
  rw [hpj, hx]
  simp only
  rw [sendQ_all (by have := (getM_ok (h.node hx).1 hk).1; simp; omega)]
  simp
 rw [e]
 exact ⟨g2, List.length_set ..⟩
theorem spread_all {s : WS} (h : Whole s) {k v : Int} (hk : placeB k = true) (hv : placeB v = true) (hm : (keysL (allI s)).length < 16) :
 ∃ ns : List S40, roundsW 8 s = (ns, []) ∧ Calm ns ∧ AllUp ns ∧ ∀ (i j : Nat) (xi xj : S40), ns[i]? = some xi → ns[j]? = some xj →
   ∃ bs : List S40, putW (ns, []) (nid xi) k v = (bs, []) ∧ Calm bs ∧ bs.length = ns.length ∧ bs[i]? = some (putNd xi k v) ∧
   ∃ cs : List S40, roundsW 3 (bs, []) = (cs, []) ∧ Calm cs ∧ AllUp cs ∧ isNode cs (nid xj) = true ∧
   ∃ ds : WS, getW (cs, []) (nid xj) k = ds ∧ OkW ds ∧
   ∃ gs : WS, roundW ds = gs ∧ gs.1.length = ns.length ∧ ∃ zj : S40, gs.1[j]? = some zj ∧ zj.f3 ≠ [] ∧
   ∃ o : Option S48, bestOpt k (allI (bs, [])) = o ∧ zj.f3.getLast? = some (noteT k (o.getD z48) o.isSome) ∧
   (xi ≠ putNd xi k v → ∃ x y : S48, getI (putNd xi k v).f2 k = some x ∧ o = some y ∧ (x = y → y.f3 = false ∧ y.f2 = v)) := by
 obtain ⟨ns, e8, c8, a8, l8, hij⟩ := spread_law h hk hv hm
 refine ⟨ns, e8, c8, a8, fun i j xi xj hi hj => ?_⟩
 obtain ⟨p1, p2, cs, r1, r2, r3, r4, yj, y1, y2, zj, z1, z2, z3⟩ := hij i j xi xj hi hj
 have hil := (List.getElem?_eq_some_iff.1 hi).1
 obtain ⟨o1, o2⟩ := get_okW r2 r3 y1 hk
 refine ⟨_, p1, p2, List.length_set .., by rw [List.getElem?_set]; simp [hil], cs, r1, r2, r3, y2 ▸ (r2.node y1).2.1, _, rfl, y2 ▸ o1, _, rfl, ?_, zj, y2 ▸ z1, z2, _, rfl, z3, fun hne => ?_⟩
 ·have h1 := roundsW_len o1 1
  have h2 : (roundW (getW (cs, []) (nid yj) k)).1.length = (getW (cs, []) (nid yj) k).1.length := h1
  rw [← y2, h2, o2, r4]
 ·have hnb := (c8.node hi).1
  have hu := a8 xi (List.mem_of_getElem? hi)
  obtain ⟨n0, n1, n2, n3, n4⟩ := nodeB_iff.1 hnb
  have hid : placeB xi.f1.f0 = true := n1.hid
  have hw : writeB xi.f1.f0 xi.f2 k v false = true := by
   cases hq : writeB xi.f1.f0 xi.f2 k v false with
   | true => rfl
   | false => exact absurd (by unfold putNd; rw [hq]; rfl) hne
  have e2 : (putNd xi k v).f2 = putL xi.f2 (writeI xi.f1.f0 xi.f2 k v false) := by unfold putNd; rw [hw]; rfl
  obtain ⟨w1, w2⟩ := write_get n2 hk hv hid rfl (old_bounds hnb k).1 hw
  have hb := best_all p2 k
  have hmem : ItemIn (ns.set i (putNd xi k v)) (writeI xi.f1.f0 xi.f2 k v false) := ⟨putNd xi k v, by
   apply List.mem_of_getElem? (i := i)
   rw [List.getElem?_set]
   simp [hil], by rw [e2]; exact ((getI_some w1).1 w2).1⟩
  cases ho : bestOpt k (allI (ns.set i (putNd xi k v), [])) with
  | none =>
    rw [ho] at hb
    exact absurd rfl (hb _ hmem)
  | some y => exact ⟨_, y, by rw [e2]; exact w2, rfl, fun e => by subst e; exact ⟨rfl, rfl⟩⟩
end Go.Proofs.YtljipbmmgcccnaaGreat.T
end
section
namespace Go.Proofs.YtljipbmmgcccnaaGreat.T
open Go.RowKit Go.Proofs.YtljipbmmgcccnaaGreatW.PrintWords Go.Proofs.YtljipbmmgcccnaaGreatW.PrintLast Go.Proofs.YtljipbmmgcccnaaGreatW.PrintMore
attribute [local go_sem] cell_tc frozen_tc max2_int min2_int
attribute [local go_sem ↓] Go.wp_at_zero Go.wp_at_succ
set_option linter.unusedVariables false
set_option linter.unusedSimpArgs false
set_option synthInstance.maxHeartbeats 400000
set_option synthInstance.maxSize 512
section
attribute [local go_sem] cell_tc2
attribute [local go_sem high] eqA46 eqA98 eqA77 eqA48
theorem wrap_lt {q : Nat} (h : q + 1 ≤ 9223372036854775807) : IntKind.i64.wrap (q : Int) = (q : Int) := IntWalk.i64_in _ (by omega)
theorem ne_or {xk yk xc yc xx yx xv yv : Int} {xg yg : Bool} (h : ¬ (⟨xk, ⟨xc, xx⟩, xv, xg⟩ : S48) = ⟨yk, ⟨yc, yx⟩, yv, yg⟩) : ¬xk = yk ∨ (¬xc = yc ∨ ¬xx = yx) ∨ ¬xv = yv ∨ ¬xg = yg := by
 simp only [S48.mk.injEq, S46.mk.injEq, Decidable.not_and_iff_or_not] at h
 exact h
set_option maxRecDepth 100000 in
set_option maxHeartbeats 16000000 in
theorem topSpread_ {who key value many : Int} {n c m d k f : Nat} {A B C : Option Addr} {ns : List S40} {ps : List S126} {w : World} [h : Sr k40 w A n c ns] [q : Sr k126 w C k f ps] (hz : nodesFit ns) (hN : (itemsN ns).length + k ≤ 500000) :
 Calls Tryz.prog 6 #[.agg #[.slice A n c, .slice B m d, .slice C k f], .int .i64 who, .int .i64 key, .int .i64 value, .int .i64 many] w fun e w' => e = .returned (.bool true) ∧ BelL w w' := by
 obtain rfl := h.len
 obtain rfl := q.len
 have s1 := sr_l h
 have s2 := sr_l q
 have HK := Aside0.mk (place255 key)
 have HV := Aside0.mk (place255 value)
 clear h q
 go_enter Tryz.func6, Tryz.ntmps6
 go_upto_region 5 with (first | (with_reducible refine box_tc rfl (N := 5) rfl (cs := #[.slice A ns.length c, .slice B m d, .slice C ps.length f]) (t := 61) ?hr ?_; (case hr => go_simp <;> rfl); intro g5 wg5 _ _ _) | (go_at_call 9; (with_reducible refine Calls.mono awake_ ?_); rintro e wa ⟨rfl, hba⟩) | (go_at_call 26; (with_reducible refine cM (best26_ (ns := ns) (ps := ps) hN) ?_); rintro e wq ⟨rfl, hbwq⟩; simp only [itemV]) | (with_reducible refine box_tc rfl (N := 13) rfl (cs := #[.int .i64 0, .int .i64 0, .int .i64 0, .int .i64 0, .bool false]) (t := 48) ?hr ?_; (case hr => go_simp <;> rfl); intro g13 wg13 _ _ _))
 have HL := Aside0.mk (show (keysL (allI (ns, ps))).length < 16 → (keysL (allI (ns, ps))).length < 16 from id)
 generalize hKN : (keysL (allI (ns, ps))).length = kn
 have HKN := Aside0.mk hKN
 clear hKN HL
 refine wp_letter fun wb hbb => ?_
 have B1 : BlkL wb g5 #[.slice A ns.length c, .slice B m d, .slice C ps.length f] 61 := blkL
 have S1 : SrL k40 wb A ns.length c ns := sr_l inferInstance
 have S2 : SrL k126 wb C ps.length f ps := sr_l inferInstance
 have hwb : BelL w wb := belL
 clear hbb
 cases hk : decide ((16 : Int) ≤ (kn : Int))
 case true =>
  go_wp2_with (first | (go_at_call 22; (with_reducible refine cM (whole_ (ns := ns) (ps := ps) hz) ?_); rintro e wv ⟨b, rfl, hW, hbv⟩; cases b))
  all_goals
   go_ret
   exact ⟨rfl, belL⟩
 go_upto_region 7 with (first | (go_at_call 22; (with_reducible refine cM (whole_ (ns := ns) (ps := ps) hz) ?_); rintro e wv ⟨b, rfl, hW, hbv⟩; cases b))
 ·go_ret
  exact ⟨rfl, belL⟩
 ·obtain ⟨rfl, _, hWh⟩ := hW (by first | rfl | trivial)
  have hk16 : kn < 16 := by simp at hk; omega
  obtain ⟨n8, e8, c8, a8, hij⟩ := spread_all hWh HK.out HV.out (by rw [HKN.out]; exact hk16)
  have E8 := Aside0.mk e8
  have hO := hWh.ok
  have HIJ := Aside0.mk hij
  have hn8 : n8.length ≤ 8 := (nodesB_iff.1 (mayB_iff.1 c8).1).2.1
  have hn1 : 1 ≤ n8.length := (nodesB_iff.1 (mayB_iff.1 c8).1).1
  have hu6 : IntKind.u64.wrap (n8.length : Int) = (n8.length : Int) := by rw [IntKind.wrap_u64]; omega
  have hn0 : ¬ (n8.length : Int) = 0 := by omega
  have hnil : ¬ n8 = [] := fun e => by rw [e] at hn1; simp at hn1
  clear e8 hW hij hk
  refine wp_letter fun wc hbc => ?_
  have B1a : BlkL wc g5 #[.slice A ns.length c, .slice B 0 d, .slice C ps.length f] 61 := blkL
  have S1a : SrL k40 wc A ns.length c ns := sr_l inferInstance
  have S2a : SrL k126 wc C ps.length f ps := sr_l inferInstance
  have hwc : BelL w wc := belL
  clear hbc
  go_upto_region 10 with (first | (go_at_call 23; (with_reducible refine cM (rounds8_ (ns := ns) (ps := ps) hO) ?_); rw [E8.out]; rintro e w3 ⟨v3, rfl, ⟨A3, c3, B3, d3, C3, f3, rfl, hF3, hG3⟩, hb3⟩; simp only [List.length_nil] at hF3 hG3 ⊢; have hbw3 : BelL w w3 := belL) | (with_reducible refine box_tc rfl (N := 16) rfl (cs := #[.slice none 0 0, .slice none 0 0, .slice none 0 0]) (t := 61) ?hr ?_; (case hr => go_simp <;> rfl); intro g16 wg16 _ _ _))
  refine wp_letter fun w5 hb5 => ?_
  have B16 : BlkL w5 g16 #[.slice A3 n8.length c3, .slice B3 0 d3, .slice C3 0 f3] 61 := blkL
  have S3 : SrL k40 w5 A3 n8.length c3 n8 := sr_l inferInstance
  have S4 : SrL k126 w5 C3 0 f3 [] := sr_l inferInstance
  have hw5 : BelL w w5 := belL
  clear hb5
  refine wp_region_any_lex (S := fun w_ => BelL w5 w_) 18 (by kernel_rfl) (by kernel_rfl) belL ?_
  (refine rU (i := 0) (v := ?_) rfl rfl (by kernel_rfl) ?_ ?_; rotate_left; (focus (intro wq hSw; first | (go_simp; done) | (go_simp; with_reducible rfl))); dsimp only [s0, sS])
  (refine rU (i := 1) (v := ?_) rfl rfl (by kernel_rfl) ?_ ?_; rotate_left; (focus (intro wq hSw; first | (go_simp; done) | (go_simp; with_reducible rfl))); dsimp only [s0, sS])
  (refine rU (i := 2) (v := ?_) rfl rfl (by kernel_rfl) ?_ ?_; rotate_left; (focus (intro wq hSw; first | (go_simp; done) | (go_simp; with_reducible rfl))); dsimp only [s0, sS])
  (refine rU (i := 3) (v := ?_) rfl rfl (by kernel_rfl) ?_ ?_; rotate_left; (focus (intro wq hSw; first | (go_simp; done) | (go_simp; with_reducible rfl))); dsimp only [s0, sS])
  (refine rU (i := 4) (v := ?_) rfl rfl (by kernel_rfl) ?_ ?_; rotate_left; (focus (intro wq hSw; first | (go_simp; done) | (go_simp; with_reducible rfl))); dsimp only [s0, sS])
  (refine rU (i := 5) (v := ?_) rfl rfl (by kernel_rfl) ?_ ?_; rotate_left; (focus (intro wq hSw; first | (go_simp; done) | (go_simp; with_reducible rfl))); dsimp only [s0, sS])
  (refine rU (i := 6) (v := ?_) rfl rfl (by kernel_rfl) ?_ ?_; rotate_left; (focus (intro wq hSw; first | (go_simp; done) | (go_simp; with_reducible rfl))); dsimp only [s0, sS])
  (refine rU (i := 7) (v := ?_) rfl rfl (by kernel_rfl) ?_ ?_; rotate_left; (focus (intro wq hSw; first | (go_simp; done) | (go_simp; with_reducible rfl))); dsimp only [s0, sS])
  (refine rU (i := 8) (v := ?_) rfl rfl (by kernel_rfl) ?_ ?_; rotate_left; (focus (intro wq hSw; first | (go_simp; done) | (go_simp; with_reducible rfl))); dsimp only [s0, sS])
  (refine rU (i := 9) (v := ?_) rfl rfl (by kernel_rfl) ?_ ?_; rotate_left; (focus (intro wq hSw; first | (go_simp; done) | (go_simp; with_reducible rfl))); dsimp only [s0, sS])
  (refine rU (i := 10) (v := ?_) rfl rfl (by kernel_rfl) ?_ ?_; rotate_left; (focus (intro wq hSw; first | (go_simp; done) | (go_simp; with_reducible rfl))); dsimp only [s0, sS])
  (refine rU (i := 11) (v := ?_) rfl rfl (by kernel_rfl) ?_ ?_; rotate_left; (focus (intro wq hSw; first | (go_simp; done) | (go_simp; with_reducible rfl))); dsimp only [s0, sS])
  (refine rU (i := 12) (v := ?_) rfl rfl (by kernel_rfl) ?_ ?_; rotate_left; (focus (intro wq hSw; first | (go_simp; done) | (go_simp; with_reducible rfl))); dsimp only [s0, sS])
  (refine rU (i := 13) (v := ?_) rfl rfl (by kernel_rfl) ?_ ?_; rotate_left; (focus (intro wq hSw; first | (go_simp; done) | (go_simp; with_reducible rfl))); dsimp only [s0, sS])
  (refine rU (i := 14) (v := ?_) rfl rfl (by kernel_rfl) ?_ ?_; rotate_left; (focus (intro wq hSw; first | (go_simp; done) | (go_simp; with_reducible rfl))); dsimp only [s0, sS])
  (refine rU (i := 15) (v := ?_) rfl rfl (by kernel_rfl) ?_ ?_; rotate_left; (focus (intro wq hSw; first | (go_simp; done) | (go_simp; with_reducible rfl))); dsimp only [s0, sS])
  (refine rU (i := 16) (v := ?_) rfl rfl (by kernel_rfl) ?_ ?_; rotate_left; (focus (intro wq hSw; first | (go_simp; done) | (go_simp; with_reducible rfl))); dsimp only [s0, sS])
  (refine rU (i := 17) (v := ?_) rfl rfl (by kernel_rfl) ?_ ?_; rotate_left; (focus (intro wq hSw; first | (go_simp; done) | (go_simp; with_reducible rfl))); dsimp only [s0, sS])
  refine lexR_done (by kernel_rfl) ?_
  go_upto_region 11 with (fail)
  obtain ⟨ii, hii, ei⟩ := mod_idx who hn1 (by omega : n8.length ≤ 1000)
  obtain ⟨jj, hjj, ej⟩ := mod_idx many hn1 (by omega : n8.length ≤ 1000)
  have ei2 : IntKind.i64.wrap ((IntKind.u64.wrap who).tmod (n8.length : Int)) = (ii : Int) := by first | (rw [IntKind.wrap_i64]; exact ei) | (unfold wrap64 at ei; rw [IntKind.wrap_i64]; exact ei) | (unfold RowKit.wrap64 at ei; rw [IntKind.wrap_i64]; exact ei) | exact (IntWalk.i64_left _).trans ei | exact (PlainAid.i64_is _).trans ei | (rw [IntKind.wrap_i64]; unfold wrap64 at ei; omega)
  have ej2 : IntKind.i64.wrap ((IntKind.u64.wrap many).tmod (n8.length : Int)) = (jj : Int) := by first | (rw [IntKind.wrap_i64]; exact ej) | (unfold wrap64 at ej; rw [IntKind.wrap_i64]; exact ej) | (unfold RowKit.wrap64 at ej; rw [IntKind.wrap_i64]; exact ej) | exact (IntWalk.i64_left _).trans ej | exact (PlainAid.i64_is _).trans ej | (rw [IntKind.wrap_i64]; unfold wrap64 at ej; omega)
  rw [ei2, ej2]
  clear ei ej ei2 ej2
  obtain ⟨bs, p1, p2, p3, p4, cs, r1, r2, r3, r4, ⟨D1, D2⟩, g1, g2, ⟨G1, G2⟩, q1, q2, zj, q3, q4, o, b1, b2, b3⟩ := HIJ.out ii jj n8[ii] n8[jj] (List.getElem?_eq_getElem hii) (List.getElem?_eq_getElem hjj)
  have hkn : isNode n8 n8[ii].f1.f0 = true := isNode_map.2 (List.mem_map.2 ⟨_, List.getElem_mem hii, rfl⟩)
  have HU : ∀ x ∈ n8, x.f0 = true := fun x hx => a8 x hx
  have HU3 : ∀ x ∈ cs, x.f0 = true := fun x hx => r3 x hx
  have PM := Aside0.mk (show putW (n8, []) n8[ii].f1.f0 (bits BinOp.and IntKind.i64 key 255) (bits BinOp.and IntKind.i64 value 255) = (bs, []) from p1)
  have GM := Aside0.mk (show getW (cs, []) n8[jj].f1.f0 (bits BinOp.and IntKind.i64 key 255) = (D1, D2) from g1)
  have RM := Aside0.mk q1
  have R3 := Aside0.mk r1
  have LB := Aside0.mk p3
  have PB := Aside0.mk p4
  have LG := Aside0.mk q2
  have ZJ := Aside0.mk q3
  have ZN := Aside0.mk q4
  have OO := Aside0.mk b1
  have ZL := Aside0.mk b2
  have XY := Aside0.mk b3
  clear p1 g1 q1 r1 p3 p4 q2 q3 q4 b1 b2 b3 HIJ
  refine wp_letter fun w6 hb6 => ?_
  have B16a : BlkL w6 g16 #[.slice A3 n8.length c3, .slice B3 0 d3, .slice C3 0 f3] 61 := blkL
  have S3a : SrL k40 w6 A3 n8.length c3 n8 := sr_l inferInstance
  have S4a : SrL k126 w6 C3 0 f3 [] := sr_l inferInstance
  have hw6 : BelL w w6 := belL
  obtain ⟨ad, X2, y2, X3, y3, X4, y4, X5, y5, rfl, x0, x1, x2, x3, x4, x5, k2, k3, k4, k5⟩ := el_T40 (W := w6) (A := A3) (n := n8.length) (c := c3) (l := n8) ii hii
  (try simp only [Act.put, get3, put3])
  go_cut [20, 21] from 77 to 91 (fun s20 s21 wx => ∃ (g20 : Nat) (A4 : Option Addr) (c4 : Nat) (B4 : Option Addr) (d4 : Nat) (C4 : Option Addr) (f4 : Nat), s20 = .pointer (some ⟨g20, 0, none⟩) ∧ s21 = .int .i64 0 ∧ BlkL wx g16 #[.slice (some ad) n8.length c3, .slice B3 0 d3, .slice C3 0 f3] 61 ∧ BlkL wx g20 #[.slice A4 bs.length c4, .slice B4 0 d4, .slice C4 0 f4] 61 ∧ SrL k40 wx (some ad) n8.length c3 n8 ∧ SrL k40 wx A4 bs.length c4 bs ∧ SrL k126 wx C4 0 f4 [] ∧ BelL w wx)
  case first =>
   go_region_held3 (fun w' => BelL w6 w') (first | exact belL) (first | (go_at_call 24; (with_reducible refine cM (doPut_ (ns := n8) (ps := []) c8 hkn HU HK.out HV.out) ?_); rw [PM.out]; rintro e w4 ⟨v4, rfl, ⟨A4, c4, B4, d4, C4, f4, rfl, hF4, hG4⟩, hb4⟩; simp only [List.length_nil] at hF4 hG4 ⊢))
   all_goals
    go_wp2_with (fail)
    go_meet
    exact ⟨_, A4, c4, B4, d4, C4, f4, rfl, rfl, blkL, blkL, sr_l inferInstance, sr_l inferInstance, sr_l inferInstance, belL⟩
  case rest =>
   obtain ⟨g20, A4, c4, B4, d4, C4, f4, rfl, rfl, B16b, B20, S3b, S5, S6, hw7⟩ := hcut
   have HNE : ((bs.length : Int) != (n8.length : Int)) = false := by rw [LB.out]; simp
   go_upto_region 14 with (first | (go_at_call 11; (with_reducible refine cM (num _ _) ?_); rintro e w' ⟨rfl, ⟨nd, rfl⟩⟩))
   have hib : ii < bs.length := by have := LB.out; omega
   obtain ⟨ae, Y2, z2, Y3, z3, Y4, z4, Y5, z5, rfl, v0, v1, v2, v3, v4, v5, t2, t3, t4, t5⟩ := el_T40 (W := wc) (A := A4) (n := bs.length) (c := c4) (l := bs) ii hib
   clear HNE
   obtain ⟨ox, hox⟩ : ∃ ox, getI bs[ii].f2 (bits BinOp.and IntKind.i64 key 255) = ox := ⟨_, rfl⟩
   have GX := Aside0.mk hox
   clear hox
   go_upto_region 15 with (first | (go_at_call 18; (with_reducible refine cM (get_ (l := bs[ii].f2) (key := (bits BinOp.and IntKind.i64 key 255))) ?_); rw [GX.out]; rintro e wg ⟨rfl, hbg⟩; simp only [itemV]) | (with_reducible refine box_tc rfl (N := 22) rfl (cs := #[.int .i64 0, .int .i64 0, .int .i64 0, .int .i64 0, .bool false]) (t := 48) ?hr ?_; (case hr => go_simp <;> rfl); intro g22 wg22 _ _ _))
   have CC := Aside0.mk p2
   go_upto_region 16 with (first | (go_at_call 23; (with_reducible refine cM (rounds3_ (ns := bs) (ps := []) CC.out) ?_); rw [R3.out]; rintro e w9 ⟨v9, rfl, ⟨A9, c9, B9, d9, C9, f9, rfl, hF9, hG9⟩, hb9⟩; simp only [List.length_nil] at hF9 hG9 ⊢; have hbw9 : BelL w w9 := belL) | (with_reducible refine box_tc rfl (N := 24) rfl (cs := #[.slice none 0 0, .slice none 0 0, .slice none 0 0]) (t := 61) ?hr ?_; (case hr => go_simp <;> rfl); intro g24 wg24 _ _ _))
   refine wp_letter fun w8 hb8 => ?_
   have B16c : BlkL w8 g16 #[.slice (some ad) n8.length c3, .slice B3 0 d3, .slice C3 0 f3] 61 := blkL
   have B20c : BlkL w8 g20 #[.slice (some ae) bs.length c4, .slice B4 0 d4, .slice C4 0 f4] 61 := blkL
   have B22c : BlkL w8 g22 #[.int .i64 (ox.getD z48).f0, .int .i64 (ox.getD z48).f1.f0, .int .i64 (ox.getD z48).f1.f1, .int .i64 (ox.getD z48).f2, .bool (ox.getD z48).f3] 48 := blkL
   have B24c : BlkL w8 g24 #[.slice A9 cs.length c9, .slice B9 0 d9, .slice C9 0 f9] 61 := blkL
   have S6c : SrL k126 w8 C4 0 f4 [] := sr_l inferInstance
   have S3c : SrL k40 w8 (some ad) n8.length c3 n8 := sr_l inferInstance
   have S5c : SrL k40 w8 (some ae) bs.length c4 bs := sr_l inferInstance
   have S8c : SrL k40 w8 A9 cs.length c9 cs := sr_l inferInstance
   have S9c : SrL k126 w8 C9 0 f9 [] := sr_l inferInstance
   have hw8 : BelL w w8 := belL
   have hkc : isNode cs n8[jj].f1.f0 = true := r4
   clear hb8
   obtain ⟨ag, X6, y6, X7, y7, X8, y8, X9, y9, hag, j0, j1, j2, j3, j4, j5, l2, l3, l4, l5⟩ := el_T40 (W := w8) (A := some ad) (n := n8.length) (c := c3) (l := n8) jj hjj
   obtain rfl : ad = ag := Option.some.inj hag
   (try simp only [Act.put, get3, put3])
   go_cut [26, 27] from 120 to 133 (fun s26 s27 wx => ∃ (g26 : Nat) (Aj : Option Addr) (cj : Nat) (Bj : Option Addr) (dj : Nat) (Cj : Option Addr) (fj : Nat), s26 = .pointer (some ⟨g26, 0, none⟩) ∧ s27 = .int .i64 0 ∧ BlkL wx g16 #[.slice (some ad) n8.length c3, .slice B3 0 d3, .slice C3 0 f3] 61 ∧ BlkL wx g20 #[.slice (some ae) bs.length c4, .slice B4 0 d4, .slice C4 0 f4] 61 ∧ BlkL wx g22 #[.int .i64 (ox.getD z48).f0, .int .i64 (ox.getD z48).f1.f0, .int .i64 (ox.getD z48).f1.f1, .int .i64 (ox.getD z48).f2, .bool (ox.getD z48).f3] 48 ∧ BlkL wx g26 #[.slice Aj D1.length cj, .slice Bj 0 dj, .slice Cj D2.length fj] 61 ∧ SrL k40 wx (some ad) n8.length c3 n8 ∧ SrL k40 wx (some ae) bs.length c4 bs ∧ SrL k126 wx C4 0 f4 [] ∧ SrL k40 wx Aj D1.length cj D1 ∧ SrL k126 wx Cj D2.length fj D2 ∧ BelL w wx)
   case first =>
    go_region_held3 (fun w' => BelL w8 w') (first | exact belL) (first | (go_at_call 24; (with_reducible refine cM (doGet_ (ns := cs) (ps := []) r2 hkc HU3 HK.out) ?_); rw [GM.out]; rintro e wj ⟨vj, rfl, ⟨Aj, cj, Bj, dj, Cj, fj, rfl, hFj, hGj⟩, hbj⟩; simp only [List.length_nil] at hFj hGj ⊢))
    all_goals
     go_wp2_with (fail)
     go_meet
     exact ⟨_, Aj, cj, Bj, dj, Cj, fj, rfl, rfl, blkL, blkL, blkL, blkL, sr_l inferInstance, sr_l inferInstance, sr_l inferInstance, sr_l inferInstance, sr_l inferInstance, belL⟩
   case rest =>
    obtain ⟨g26, Aj, cj, Bj, dj, Cj, fj, rfl, rfl, B16d, B20d, B22d, B26d, S3d, S5d, S6d, S10, S11, hw9⟩ := hcut
    clear HU HU3
    go_upto_region 18 with (first | (go_at_call 27; (with_reducible refine cM (round_ (ns := D1) (ps := D2) g2) ?_); rw [RM.out]; rintro e wr ⟨vr, rfl, ⟨Ar, cr, Br, dr, Cr, fr, rfl, hFr, hGr⟩, hbr⟩; simp only at hFr hGr ⊢; have hbwr : BelL w wr := belL) | (with_reducible refine box_tc rfl (N := 28) rfl (cs := #[.slice none 0 0, .slice none 0 0, .slice none 0 0]) (t := 61) ?hr ?_; (case hr => go_simp <;> rfl); intro g28 wg28 _ _ _))
    refine wp_letter fun w10 hb10 => ?_
    have B16e : BlkL w10 g16 #[.slice (some ad) n8.length c3, .slice B3 0 d3, .slice C3 0 f3] 61 := blkL
    have B20e : BlkL w10 g20 #[.slice (some ae) bs.length c4, .slice B4 0 d4, .slice C4 0 f4] 61 := blkL
    have B22e : BlkL w10 g22 #[.int .i64 (ox.getD z48).f0, .int .i64 (ox.getD z48).f1.f0, .int .i64 (ox.getD z48).f1.f1, .int .i64 (ox.getD z48).f2, .bool (ox.getD z48).f3] 48 := blkL
    have B28e : BlkL w10 g28 #[.slice Ar G1.length cr, .slice Br 0 dr, .slice Cr G2.length fr] 61 := blkL
    have S6e : SrL k126 w10 C4 0 f4 [] := sr_l inferInstance
    have S3e : SrL k40 w10 (some ad) n8.length c3 n8 := sr_l inferInstance
    have S5e : SrL k40 w10 (some ae) bs.length c4 bs := sr_l inferInstance
    have S12 : SrL k40 w10 Ar G1.length cr G1 := sr_l inferInstance
    have hw10 : BelL w w10 := belL
    have LG1 : Aside0 (G1.length = n8.length) := ⟨LG.out⟩
    have hjg : jj < G1.length := by have := LG1.out; omega
    obtain ⟨ah, M2, o2, M3, o3, M4, o4, M5, o5, rfl, f0, f1, f2, f3', f4', f5, r22, r23, r24, r25⟩ := el_T40 (W := w10) (A := Ar) (n := G1.length) (c := cr) (l := G1) jj hjg
    have HZ : zj = G1[jj] := by have := ZJ.out; simp only [List.getElem?_eq_getElem hjg, Option.some.injEq] at this; exact this.symm
    have HNG : ((G1.length : Int) != (n8.length : Int)) = false := by rw [LG1.out]; simp
    have HLZ : ((G1[jj].f3.length : Int) == 0) = false := by
     have h1 := ZN.out
     rw [HZ] at h1
     have : G1[jj].f3.length ≠ 0 := fun h => h1 (List.length_eq_zero_iff.1 h)
     simp
     exact h1
    go_upto_region 20 with (first | (go_at_call 11; (with_reducible refine cM (num _ _) ?_); rintro e w' ⟨rfl, ⟨nd, rfl⟩⟩))
    go_upto_region 21 with (first | (go_at_call 26; (with_reducible refine cM (best26_ (ns := bs) (ps := []) (by have h1 := items_few CC.out; simpa using h1)) ?_); rw [OO.out]; rintro e wV ⟨rfl, hbV⟩; simp only [itemV]) | (with_reducible refine box_tc rfl (N := 30) rfl (cs := #[.int .i64 0, .int .i64 0, .int .i64 0, .int .i64 0, .bool false]) (t := 48) ?hr ?_; (case hr => go_simp <;> rfl); intro g30 wg30 _ _ _))
    refine wp_letter fun wA hbA => ?_
    have B16f : BlkL wA g16 #[.slice (some ad) n8.length c3, .slice B3 0 d3, .slice C3 0 f3] 61 := blkL
    have B20f : BlkL wA g20 #[.slice (some ae) bs.length c4, .slice B4 0 d4, .slice C4 0 f4] 61 := blkL
    have B22f : BlkL wA g22 #[.int .i64 (ox.getD z48).f0, .int .i64 (ox.getD z48).f1.f0, .int .i64 (ox.getD z48).f1.f1, .int .i64 (ox.getD z48).f2, .bool (ox.getD z48).f3] 48 := blkL
    have B28f : BlkL wA g28 #[.slice (some ah) G1.length cr, .slice Br 0 dr, .slice Cr G2.length fr] 61 := blkL
    have B30f : BlkL wA g30 #[.int .i64 (o.getD z48).f0, .int .i64 (o.getD z48).f1.f0, .int .i64 (o.getD z48).f1.f1, .int .i64 (o.getD z48).f2, .bool (o.getD z48).f3] 48 := blkL
    have S3f : SrL k40 wA (some ad) n8.length c3 n8 := sr_l inferInstance
    have S5f : SrL k40 wA (some ae) bs.length c4 bs := sr_l inferInstance
    have S12f : SrL k40 wA (some ah) G1.length cr G1 := sr_l inferInstance
    have hwA : BelL w wA := belL
    clear hbA
    obtain ⟨a7, P2, q2, P3, q3, P4, q4, P5, q5, h7, s0, s1, s2, s3, s4, s5, u2, u3, u4, u5⟩ := el_T40 (W := wA) (A := some ad) (n := n8.length) (c := c3) (l := n8) ii hii
    obtain rfl : ad = a7 := Option.some.inj h7
    obtain ⟨a8, Q2, i2, Q3, i3, Q4, i4, Q5, i5, h8, e0, e1, e2, e3, e4, e5, zz2, zz3, zz4, zz5⟩ := el_T40 (W := wA) (A := some ae) (n := bs.length) (c := c4) (l := bs) ii hib
    obtain rfl : ae = a8 := Option.some.inj h8
    refine wp_region_any_lex (S := fun w_ => BelL wA w_) 11 (by kernel_rfl) (by kernel_rfl) belL ?_
    (refine rU (i := 0) (v := ?_) rfl rfl (by kernel_rfl) ?_ ?_; rotate_left; (focus (intro wq hSw; first | (go_simp; done) | (go_simp; with_reducible rfl))); dsimp only [s0, sS])
    (refine rU (i := 1) (v := ?_) rfl rfl (by kernel_rfl) ?_ ?_; rotate_left; (focus (intro wq hSw; first | (go_simp; done) | (go_simp; with_reducible rfl))); dsimp only [s0, sS])
    (refine rU (i := 2) (v := ?_) rfl rfl (by kernel_rfl) ?_ ?_; rotate_left; (focus (intro wq hSw; first | (go_simp; done) | (go_simp; with_reducible rfl))); dsimp only [s0, sS])
    (refine rU (i := 3) (v := ?_) rfl rfl (by kernel_rfl) ?_ ?_; rotate_left; (focus (intro wq hSw; first | (go_simp; done) | (go_simp; with_reducible rfl))); dsimp only [s0, sS])
    (refine rU (i := 4) (v := ?_) rfl rfl (by kernel_rfl) ?_ ?_; rotate_left; (focus (intro wq hSw; first | (go_simp; done) | (go_simp; with_reducible rfl))); dsimp only [s0, sS])
    (refine rU (i := 5) (v := ?_) rfl rfl (by kernel_rfl) ?_ ?_; rotate_left; (focus (intro wq hSw; first | (go_simp; done) | (go_simp; with_reducible rfl))); dsimp only [s0, sS])
    (refine rU (i := 6) (v := ?_) rfl rfl (by kernel_rfl) ?_ ?_; rotate_left; (focus (intro wq hSw; first | (go_simp; done) | (go_simp; with_reducible rfl))); dsimp only [s0, sS])
    (refine rU (i := 7) (v := ?_) rfl rfl (by kernel_rfl) ?_ ?_; rotate_left; (focus (intro wq hSw; first | (go_simp; done) | (go_simp; with_reducible rfl))); dsimp only [s0, sS])
    (refine rU (i := 8) (v := ?_) rfl rfl (by kernel_rfl) ?_ ?_; rotate_left; (focus (intro wq hSw; first | (go_simp; done) | (go_simp; with_reducible rfl))); dsimp only [s0, sS])
    (refine rU (i := 9) (v := ?_) rfl rfl (by kernel_rfl) ?_ ?_; rotate_left; (focus (intro wq hSw; first | (go_simp; done) | (go_simp; with_reducible rfl))); dsimp only [s0, sS])
    (refine rO (i := 10) rfl (by kernel_rfl) (fun K hK => ?_); go_simp; (go_at_call 28; (with_reducible refine Calls.mono sameNode_ ?_); rintro e wS ⟨rfl, hbS⟩); refine hK.out _ _ belL ?_; clear hK K; (try simp only [Act.put, get3, put3]))
    refine lexR_done (by kernel_rfl) ?_
    generalize hE : (n8[ii].f0 == bs[ii].f0 && ((n8[ii].f1.f0 == bs[ii].f1.f0 && (decide (n8[ii].f1.f1 = bs[ii].f1.f1) && decide (n8[ii].f1.f2 = bs[ii].f1.f2))) && (decide (n8[ii].f2 = bs[ii].f2) && decide (n8[ii].f3 = bs[ii].f3)))) = eb
    cases eb
    case true =>
     go_wp2_with (first | fail)
     go_ret
     exact ⟨rfl, belL⟩
    case false =>
     have hbi : bs[ii] = putNd n8[ii] (bits BinOp.and IntKind.i64 key 255) (bits BinOp.and IntKind.i64 value 255) := by
      have h1 := PB.out
      rw [List.getElem?_eq_getElem hib] at h1
      exact Option.some.inj h1
     obtain ⟨x, y, hgx, hoy, hxy⟩ := XY.out (hbi ▸ same_no hE)
     have hox : ox = some x := by rw [← GX.out, hbi]; exact hgx
     have HXY := Aside0.mk hxy
     subst hox
     subst hoy
     clear hgx hbi hE hxy
     have hzl : G1[jj].f3.getLast? = some (noteT (bits BinOp.and IntKind.i64 key 255) y true) := by have h1 := ZL.out; rw [HZ] at h1; exact h1
     obtain ⟨lq, hlq⟩ : ∃ lq, G1[jj].f3.length = lq + 1 := ⟨G1[jj].f3.length - 1, by have h1 : G1[jj].f3 ≠ [] := by (intro h1; rw [h1] at hzl; cases hzl)
                                                                                     have := List.length_pos_iff.2 h1; omega⟩
     have hlt : lq < G1[jj].f3.length := by omega
     have hnt : G1[jj].f3[lq] = noteT (bits BinOp.and IntKind.i64 key 255) y true := by
      rw [List.getLast?_eq_getElem?, hlq, Nat.add_sub_cancel, List.getElem?_eq_getElem hlt] at hzl
      exact Option.some.inj hzl
     have HNT := Aside0.mk hnt
     have HLQ := Aside0.mk hlq
     clear hzl hlq hnt HZ
     obtain ⟨xk, ⟨xc, xx⟩, xv, xg⟩ := x
     obtain ⟨yk, ⟨yc, yx⟩, yv, yg⟩ := y
     simp only [Option.getD_some] at B22f B30f
     go_upto_region 23 with (fail)
     refine wp_letter fun wB hbB => ?_
     have B16g : BlkL wB g16 #[.slice (some ad) n8.length c3, .slice B3 0 d3, .slice C3 0 f3] 61 := blkL
     have B22g : BlkL wB g22 #[.int .i64 xk, .int .i64 xc, .int .i64 xx, .int .i64 xv, .bool xg] 48 := blkL
     have B28g : BlkL wB g28 #[.slice (some ah) G1.length cr, .slice Br 0 dr, .slice Cr G2.length fr] 61 := blkL
     have B30g : BlkL wB g30 #[.int .i64 yk, .int .i64 yc, .int .i64 yx, .int .i64 yv, .bool yg] 48 := blkL
     have S12g : SrL k40 wB (some ah) G1.length cr G1 := sr_l inferInstance
     have hwB : BelL w wB := belL
     clear hbB
     have hsub : ((lq + 1 : Nat) : Int) - 1 = (lq : Int) := by omega
     go_upto_if 194 with (first | (with_reducible refine box_tc rfl (N := 33) rfl (cs := #[.int .i64 0, .bool false, .int .i64 0]) (t := 77) ?hr ?_; (case hr => go_simp <;> rfl); intro g33 wg33 _ _ _))
     (try simp only [Act.put, get3, put3])
     go_cut [] from 193 to 197 (fun wx => ∃ (has : Bool) (val : Int), noteT (bits BinOp.and IntKind.i64 key 255) ⟨yk, ⟨yc, yx⟩, yv, yg⟩ true = ⟨(bits BinOp.and IntKind.i64 key 255), has, val⟩ ∧ (yg = false → val = yv) ∧ BlkL wx g22 #[.int .i64 xk, .int .i64 xc, .int .i64 xx, .int .i64 xv, .bool xg] 48 ∧ BlkL wx g28 #[.slice (some ah) G1.length cr, .slice Br 0 dr, .slice Cr G2.length fr] 61 ∧ BlkL wx g30 #[.int .i64 yk, .int .i64 yc, .int .i64 yx, .int .i64 yv, .bool yg] 48 ∧ BlkL wx g33 #[.int .i64 (bits BinOp.and IntKind.i64 key 255), .bool has, .int .i64 val] 77 ∧ SrL k40 wx (some ah) G1.length cr G1 ∧ BelL w wx)
     case first =>
      cases yg
      all_goals
       go_wp2_with (fail)
       go_meet
       first | exact ⟨true, yv, rfl, fun _ => rfl, blkL, blkL, blkL, blkL, sr_l inferInstance, belL⟩ | exact ⟨false, 0, rfl, (fun h => by cases h), blkL, blkL, blkL, blkL, sr_l inferInstance, belL⟩
     case rest =>
      obtain ⟨has, val, hnt, hval, B22h, B28h, B30h, B33h, S12h, hwC⟩ := hcut
      go_upto_region 26 with (fail)
      obtain ⟨a9, T2, j2, T3, j3', T4, j4', T5, j5', h9, l0, l1, l2', l3', l4', l5', m2', m3', m4', m5'⟩ := el_T40 (W := wc) (A := some ah) (n := G1.length) (c := cr) (l := G1) jj hjg
      obtain rfl : ah = a9 := Option.some.inj h9
      obtain ⟨al, hT5, z0, z1, z2⟩ := el_T77 (W := wc) (A := T5) (n := G1[jj].f3.length) (c := j5') (l := G1[jj].f3) lq hlt
      subst hT5
      have hlm : G1[jj].f3.length ≤ 9223372036854775807 := (show Sr k77 wc (some al) G1[jj].f3.length j5' G1[jj].f3 from inferInstance).C.2.1
      rw [HLQ.out] at l5' hlm
      have hwr : IntKind.i64.wrap (lq : Int) = (lq : Int) := wrap_lt hlm
      have hl1 : (lq : Int) < (lq : Int) + 1 := Int.lt_succ lq
      rw [HNT.out, hnt] at z0 z1 z2
      simp only at z0 z1 z2
      clear hlm m2' m3' m4' m5' hnt
      by_cases hq : (⟨xk, ⟨xc, xx⟩, xv, xg⟩ : S48) = ⟨yk, ⟨yc, yx⟩, yv, yg⟩
      ·have hv := HXY.out hq
       simp only [S48.mk.injEq, S46.mk.injEq] at hq
       obtain ⟨rfl, ⟨rfl, rfl⟩, rfl, rfl⟩ := hq
       simp only at hv
       obtain ⟨hv1, hv2⟩ := hv
       obtain rfl := (hval hv1).trans hv2
       subst hv2
       clear hval hv1
       refine wp_region_lex (S := fun w_ => BelL wc w_) (by kernel_rfl) (by kernel_rfl) belL ?_
       (refine hU (v := ?_) rfl (by kernel_rfl) ?_ ?_; rotate_left; (focus (intro wq hSw; first | (go_simp; done) | (go_simp; with_reducible rfl))); dsimp only [s0, sS])
       (refine hU (v := ?_) rfl (by kernel_rfl) ?_ ?_; rotate_left; (focus (intro wq hSw; first | (go_simp; done) | (go_simp; with_reducible rfl))); dsimp only [s0, sS])
       (refine hU (v := ?_) rfl (by kernel_rfl) ?_ ?_; rotate_left; (focus (intro wq hSw; first | (go_simp; done) | (go_simp; with_reducible rfl))); dsimp only [s0, sS])
       (refine hU (v := ?_) rfl (by kernel_rfl) ?_ ?_; rotate_left; (focus (intro wq hSw; first | (go_simp; done) | (go_simp; with_reducible rfl))); dsimp only [s0, sS])
       (refine hU (v := ?_) rfl (by kernel_rfl) ?_ ?_; rotate_left; (focus (intro wq hSw; first | (go_simp; done) | (go_simp; with_reducible rfl))); dsimp only [s0, sS])
       (refine hU (v := ?_) rfl (by kernel_rfl) ?_ ?_; rotate_left; (focus (intro wq hSw; first | (go_simp; done) | (go_simp; with_reducible rfl))); dsimp only [s0, sS])
       (refine hU (v := ?_) rfl (by kernel_rfl) ?_ ?_; rotate_left; (focus (intro wq hSw; first | (go_simp; done) | (go_simp; with_reducible rfl))); dsimp only [s0, sS])
       (refine hU (v := ?_) rfl (by kernel_rfl) ?_ ?_; rotate_left; (focus (intro wq hSw; first | (go_simp; done) | (go_simp; with_reducible rfl))); dsimp only [s0, sS])
       (refine hU (v := ?_) rfl (by kernel_rfl) ?_ ?_; rotate_left; (focus (intro wq hSw; first | (go_simp; done) | (go_simp; with_reducible rfl))); dsimp only [s0, sS])
       (refine hU (v := ?_) rfl (by kernel_rfl) ?_ ?_; rotate_left; (focus (intro wq hSw; first | (go_simp; done) | (go_simp; with_reducible rfl))); dsimp only [s0, sS])
       (refine hU (v := ?_) rfl (by kernel_rfl) ?_ ?_; rotate_left; (focus (intro wq hSw; first | (go_simp; done) | (go_simp; with_reducible rfl))); dsimp only [s0, sS])
       (refine hU (v := ?_) rfl (by kernel_rfl) ?_ ?_; rotate_left; (focus (intro wq hSw; first | (go_simp; done) | (go_simp; with_reducible rfl))); dsimp only [s0, sS])
       (refine hU (v := ?_) rfl (by kernel_rfl) ?_ ?_; rotate_left; (focus (intro wq hSw; first | (go_simp; done) | (go_simp; with_reducible rfl))); dsimp only [s0, sS])
       (refine hU (v := ?_) rfl (by kernel_rfl) ?_ ?_; rotate_left; (focus (intro wq hSw; first | (go_simp; done) | (go_simp; with_reducible rfl))); dsimp only [s0, sS])
       (refine hU (v := ?_) rfl (by kernel_rfl) ?_ ?_; rotate_left; (focus (intro wq hSw; first | (go_simp; done) | (go_simp; with_reducible rfl))); dsimp only [s0, sS])
       (refine hU (v := ?_) rfl (by kernel_rfl) ?_ ?_; rotate_left; (focus (intro wq hSw; first | (go_simp; done) | (go_simp; with_reducible rfl))); dsimp only [s0, sS])
       (refine hU (v := ?_) rfl (by kernel_rfl) ?_ ?_; rotate_left; (focus (intro wq hSw; first | (go_simp; done) | (go_simp; with_reducible rfl))); dsimp only [s0, sS])
       (refine hU (v := ?_) rfl (by kernel_rfl) ?_ ?_; rotate_left; (focus (intro wq hSw; first | (go_simp; done) | (go_simp; with_reducible rfl))); dsimp only [s0, sS])
       (refine hU (v := ?_) rfl (by kernel_rfl) ?_ ?_; rotate_left; (focus (intro wq hSw; first | (go_simp; done) | (go_simp; with_reducible rfl))); dsimp only [s0, sS])
       (refine hU (v := ?_) rfl (by kernel_rfl) ?_ ?_; rotate_left; (focus (intro wq hSw; first | (go_simp; done) | (go_simp; with_reducible rfl))); dsimp only [s0, sS])
       (refine hU (v := ?_) rfl (by kernel_rfl) ?_ ?_; rotate_left; (focus (intro wq hSw; first | (go_simp; done) | (go_simp; with_reducible rfl))); dsimp only [s0, sS])
       (refine hU (v := ?_) rfl (by kernel_rfl) ?_ ?_; rotate_left; (focus (intro wq hSw; first | (go_simp; done) | (go_simp; with_reducible rfl))); dsimp only [s0, sS])
       (refine hU (v := ?_) rfl (by kernel_rfl) ?_ ?_; rotate_left; (focus (intro wq hSw; first | (go_simp; done) | (go_simp; with_reducible rfl))); dsimp only [s0, sS])
       (refine hU (v := ?_) rfl (by kernel_rfl) ?_ ?_; rotate_left; (focus (intro wq hSw; first | (go_simp; done) | (go_simp; with_reducible rfl))); dsimp only [s0, sS])
       (refine hU (v := ?_) rfl (by kernel_rfl) ?_ ?_; rotate_left; (focus (intro wq hSw; first | (go_simp; done) | (go_simp; with_reducible rfl))); dsimp only [s0, sS])
       (refine hU (v := ?_) rfl (by kernel_rfl) ?_ ?_; rotate_left; (focus (intro wq hSw; first | (go_simp; done) | (go_simp; with_reducible rfl))); dsimp only [s0, sS])
       (refine hU (v := ?_) rfl (by kernel_rfl) ?_ ?_; rotate_left; (focus (intro wq hSw; first | (go_simp; done) | (go_simp; with_reducible rfl))); dsimp only [s0, sS])
       (refine hU (v := ?_) rfl (by kernel_rfl) ?_ ?_; rotate_left; (focus (intro wq hSw; first | (go_simp; done) | (go_simp; with_reducible rfl))); dsimp only [s0, sS])
       (refine hU (v := ?_) rfl (by kernel_rfl) ?_ ?_; rotate_left; (focus (intro wq hSw; first | (go_simp; done) | (go_simp; with_reducible rfl))); dsimp only [s0, sS])
       (refine hU (v := ?_) rfl (by kernel_rfl) ?_ ?_; rotate_left; (focus (intro wq hSw; first | (go_simp; done) | (go_simp; with_reducible rfl))); dsimp only [s0, sS])
       (refine hU (v := ?_) rfl (by kernel_rfl) ?_ ?_; rotate_left; (focus (intro wq hSw; first | (go_simp; done) | (go_simp; with_reducible rfl))); dsimp only [s0, sS])
       (refine hU (v := ?_) rfl (by kernel_rfl) ?_ ?_; rotate_left; (focus (intro wq hSw; first | (go_simp; done) | (go_simp; with_reducible rfl))); dsimp only [s0, sS])
       (refine hU (v := ?_) rfl (by kernel_rfl) ?_ ?_; rotate_left; (focus (intro wq hSw; first | (go_simp; done) | (go_simp; with_reducible rfl))); dsimp only [s0, sS])
       (refine hU (v := ?_) rfl (by kernel_rfl) ?_ ?_; rotate_left; (focus (intro wq hSw; first | (go_simp; done) | (go_simp; with_reducible rfl))); dsimp only [s0, sS])
       (refine hU (v := ?_) rfl (by kernel_rfl) ?_ ?_; rotate_left; (focus (intro wq hSw; first | (go_simp; done) | (go_simp; with_reducible rfl))); dsimp only [s0, sS])
       (refine hU (v := ?_) rfl (by kernel_rfl) ?_ ?_; rotate_left; (focus (intro wq hSw; first | (go_simp; done) | (go_simp; with_reducible rfl))); dsimp only [s0, sS])
       refine lexH_nil ?_
       go_wp2_with (first | fail)
       go_ret
       exact ⟨rfl, belL⟩
      ·have hor : ¬xk = yk ∨ (¬xc = yc ∨ ¬xx = yx) ∨ ¬xv = yv ∨ ¬xg = yg := ne_or hq
       clear hq hval
       refine wp_region_lex (S := fun w_ => BelL wc w_) (by kernel_rfl) (by kernel_rfl) belL ?_
       (refine hU (v := ?_) rfl (by kernel_rfl) ?_ ?_; rotate_left; (focus (intro wq hSw; first | (go_simp; done) | (go_simp; with_reducible rfl))); dsimp only [s0, sS])
       (refine hU (v := ?_) rfl (by kernel_rfl) ?_ ?_; rotate_left; (focus (intro wq hSw; first | (go_simp; done) | (go_simp; with_reducible rfl))); dsimp only [s0, sS])
       (refine hU (v := ?_) rfl (by kernel_rfl) ?_ ?_; rotate_left; (focus (intro wq hSw; first | (go_simp; done) | (go_simp; with_reducible rfl))); dsimp only [s0, sS])
       (refine hU (v := ?_) rfl (by kernel_rfl) ?_ ?_; rotate_left; (focus (intro wq hSw; first | (go_simp; done) | (go_simp; with_reducible rfl))); dsimp only [s0, sS])
       (refine hU (v := ?_) rfl (by kernel_rfl) ?_ ?_; rotate_left; (focus (intro wq hSw; first | (go_simp; done) | (go_simp; with_reducible rfl))); dsimp only [s0, sS])
       (refine hU (v := ?_) rfl (by kernel_rfl) ?_ ?_; rotate_left; (focus (intro wq hSw; first | (go_simp; done) | (go_simp; with_reducible rfl))); dsimp only [s0, sS])
       (refine hU (v := ?_) rfl (by kernel_rfl) ?_ ?_; rotate_left; (focus (intro wq hSw; first | (go_simp; done) | (go_simp; with_reducible rfl))); dsimp only [s0, sS])
       (refine hU (v := ?_) rfl (by kernel_rfl) ?_ ?_; rotate_left; (focus (intro wq hSw; first | (go_simp; done) | (go_simp; with_reducible rfl))); dsimp only [s0, sS])
       (refine hU (v := ?_) rfl (by kernel_rfl) ?_ ?_; rotate_left; (focus (intro wq hSw; first | (go_simp; done) | (go_simp; with_reducible rfl))); dsimp only [s0, sS])
       (refine hU (v := ?_) rfl (by kernel_rfl) ?_ ?_; rotate_left; (focus (intro wq hSw; first | (go_simp; done) | (go_simp; with_reducible rfl))); dsimp only [s0, sS])
       (refine hU (v := ?_) rfl (by kernel_rfl) ?_ ?_; rotate_left; (focus (intro wq hSw; first | (go_simp; done) | (go_simp; with_reducible rfl))); dsimp only [s0, sS])
       (refine hU (v := ?_) rfl (by kernel_rfl) ?_ ?_; rotate_left; (focus (intro wq hSw; first | (go_simp; done) | (go_simp; with_reducible rfl))); dsimp only [s0, sS])
       (refine hU (v := ?_) rfl (by kernel_rfl) ?_ ?_; rotate_left; (focus (intro wq hSw; first | (go_simp; done) | (go_simp; with_reducible rfl))); dsimp only [s0, sS])
       (refine hU (v := ?_) rfl (by kernel_rfl) ?_ ?_; rotate_left; (focus (intro wq hSw; first | (go_simp; done) | (go_simp; with_reducible rfl))); dsimp only [s0, sS])
       (refine hU (v := ?_) rfl (by kernel_rfl) ?_ ?_; rotate_left; (focus (intro wq hSw; first | (go_simp; done) | (go_simp; with_reducible rfl))); dsimp only [s0, sS])
       (refine hU (v := ?_) rfl (by kernel_rfl) ?_ ?_; rotate_left; (focus (intro wq hSw; first | (go_simp; done) | (go_simp; with_reducible rfl))); dsimp only [s0, sS])
       (refine hU (v := ?_) rfl (by kernel_rfl) ?_ ?_; rotate_left; (focus (intro wq hSw; first | (go_simp; done) | (go_simp; with_reducible rfl))); dsimp only [s0, sS])
       (refine hU (v := ?_) rfl (by kernel_rfl) ?_ ?_; rotate_left; (focus (intro wq hSw; first | (go_simp; done) | (go_simp; with_reducible rfl))); dsimp only [s0, sS])
       (refine hU (v := ?_) rfl (by kernel_rfl) ?_ ?_; rotate_left; (focus (intro wq hSw; first | (go_simp; done) | (go_simp; with_reducible rfl))); dsimp only [s0, sS])
       (refine hU (v := ?_) rfl (by kernel_rfl) ?_ ?_; rotate_left; (focus (intro wq hSw; first | (go_simp; done) | (go_simp; with_reducible rfl))); dsimp only [s0, sS])
       (refine hU (v := ?_) rfl (by kernel_rfl) ?_ ?_; rotate_left; (focus (intro wq hSw; first | (go_simp; done) | (go_simp; with_reducible rfl))); dsimp only [s0, sS])
       (refine hU (v := ?_) rfl (by kernel_rfl) ?_ ?_; rotate_left; (focus (intro wq hSw; first | (go_simp; done) | (go_simp; with_reducible rfl))); dsimp only [s0, sS])
       (refine hU (v := ?_) rfl (by kernel_rfl) ?_ ?_; rotate_left; (focus (intro wq hSw; first | (go_simp; done) | (go_simp; with_reducible rfl))); dsimp only [s0, sS])
       (refine hU (v := ?_) rfl (by kernel_rfl) ?_ ?_; rotate_left; (focus (intro wq hSw; first | (go_simp; done) | (go_simp; with_reducible rfl))); dsimp only [s0, sS])
       (refine hU (v := ?_) rfl (by kernel_rfl) ?_ ?_; rotate_left; (focus (intro wq hSw; first | (go_simp; done) | (go_simp; with_reducible rfl))); dsimp only [s0, sS])
       (refine hU (v := ?_) rfl (by kernel_rfl) ?_ ?_; rotate_left; (focus (intro wq hSw; first | (go_simp; done) | (go_simp; with_reducible rfl))); dsimp only [s0, sS])
       (refine hU (v := ?_) rfl (by kernel_rfl) ?_ ?_; rotate_left; (focus (intro wq hSw; first | (go_simp; done) | (go_simp; with_reducible rfl))); dsimp only [s0, sS])
       (refine hU (v := .bool true) rfl (by kernel_rfl) ?_ ?_; (focus (intro wq hSw; first | (go_simp; done) | (go_simp; exact hor))); dsimp only [s0, sS])
       (refine hU (v := ?_) rfl (by kernel_rfl) ?_ ?_; rotate_left; (focus (intro wq hSw; first | (go_simp; done) | (go_simp; with_reducible rfl))); dsimp only [s0, sS])
       (refine hS rfl (by kernel_rfl) ?_; dsimp only [s0, sS])
       (refine hS rfl (by kernel_rfl) ?_; dsimp only [s0, sS])
       (refine hS rfl (by kernel_rfl) ?_; dsimp only [s0, sS])
       (refine hS rfl (by kernel_rfl) ?_; dsimp only [s0, sS])
       (refine hU (v := ?_) rfl (by kernel_rfl) ?_ ?_; rotate_left; (focus (intro wq hSw; first | (go_simp; done) | (go_simp; with_reducible rfl))); dsimp only [s0, sS])
       (refine hU (v := ?_) rfl (by kernel_rfl) ?_ ?_; rotate_left; (focus (intro wq hSw; first | (go_simp; done) | (go_simp; with_reducible rfl))); dsimp only [s0, sS])
       (refine hU (v := ?_) rfl (by kernel_rfl) ?_ ?_; rotate_left; (focus (intro wq hSw; first | (go_simp; done) | (go_simp; with_reducible rfl))); dsimp only [s0, sS])
       refine lexH_nil ?_
       go_wp2_with (first | fail)
       go_ret
       exact ⟨rfl, belL⟩
end
end Go.Proofs.YtljipbmmgcccnaaGreat.T
end
