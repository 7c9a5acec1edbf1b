/- Words and lemmas that the claim's proof names, part 16: what the program's functions answer, at the inputs that each theorem's premises name. Conditions: each theorem's own premises. -/
import Derived.Test.YtljipbmmgcccnaaGreatKP15
section
namespace Go.Proofs.YtljipbmmgcccnaaGreat.T
open Go.RowKit Go.Proofs.YtljipbmmgcccnaaGreatW.PrintWords Go.Proofs.YtljipbmmgcccnaaGreatW.PrintLast Go.Proofs.YtljipbmmgcccnaaGreatW.PrintMore
attribute [local go_sem] cell_tc frozen_tc max2_int min2_int
attribute [local go_sem ↓] Go.wp_at_zero Go.wp_at_succ
set_option linter.unusedVariables false
set_option linter.unusedSimpArgs false
set_option synthInstance.maxHeartbeats 400000
set_option synthInstance.maxSize 512
theorem fh_at {ns : List S40} (h : Calm ns) {x : S40} (hx : x ∈ ns) {b : Int} (k : Fh ns (nid x) b) : (⟨b, 0⟩ : S98) ∈ x.f1.f1 := by
 obtain ⟨y, h1, _, h3, h4⟩ := k
 rw [← node_eq (mayB_iff.1 h).1 h1 hx h3]
 exact h4
def roundsW : Nat → WS → WS
 | 0, s => s
 | t + 1, s => roundW (roundsW t s)
theorem roundsW_ok {s : WS} (h : OkW s) : ∀ t, OkW (roundsW t s)
 | 0 => h
 | t + 1 => roundW_ok (roundsW_ok h t)
structure Whole (s : WS) : Prop where
 ok : OkW s
 up : AllUp s.1
 con : ∀ a b, a ∈ s.1.map nid → b ∈ s.1.map nid → Conn (Kn s.1) a b
theorem Conn.mono {S R : Int → Int → Prop} (h : ∀ a b, S a b → R a b) {a b : Int} (k : Conn S a b) : Conn R a b := by
 induction k with
 | refl => exact .refl _
 | step _ s ih =>
   refine ih.step ?_
   rcases s with s | s
   ·exact .inl (h _ _ s)
   ·exact .inr (h _ _ s)
theorem roundsW_calm {ns : List S40} (h : Calm ns) : ∀ t, roundsW t (ns, []) = (rounds t ns, [])
 | 0 => rfl
 | t + 1 => by
   show roundW (roundsW t (ns, [])) = _
   rw [roundsW_calm h t, next_eq (rounds_calm h t)]
   rfl
theorem start_law {s : WS} (h : Whole s) : ∃ ns, Whole (ns, []) ∧ ns.map nid = s.1.map nid ∧ ns = (deliverAll 1024 s).1 ∧ ∀ t, roundsW (t + 1) s = (rounds (t + 1) ns, []) := by
 obtain ⟨f1, f2, f3⟩ := round_first h.ok
 have h512 := (queueB_iff.1 (mayB_iff.1 h.ok).2.1).1
 have hn : s.2.length + asks s.2 ≤ 1024 := by have := asks_le s.2; omega
 obtain ⟨_, d2, _⟩ := deliver_fold 1024 h.ok hn
 have e : deliverAll 1024 s = ((deliverAll 1024 s).1, []) := by rw [← f1]
 have hc : Calm (deliverAll 1024 s).1 := by
  unfold Calm
  rw [← e]
  exact f2
 have hto : ∀ x ∈ s.1, ∃ x' ∈ (deliverAll 1024 s).1, x'.f0 = true ∧ nid x' = nid x ∧ ∀ y ∈ namedN1 x, y ∈ namedN1 x' := by
  intro x hx
  obtain ⟨i, hi, rfl⟩ := List.getElem_of_mem hx
  obtain ⟨L, x', l1, l2, _⟩ := deliver_heard 1024 h.ok hn (List.getElem?_eq_getElem hi) (h.up _ hx)
  exact ⟨x', List.mem_of_getElem? l1, l2.up, l2.id, fun y hy => l2.grow.known hy⟩
 have hA : AllUp (deliverAll 1024 s).1 := by
  intro x' hx
  have hm : nid x' ∈ s.1.map nid := d2 ▸ List.mem_map.2 ⟨x', hx, rfl⟩
  obtain ⟨x, x1, x2⟩ := List.mem_map.1 hm
  obtain ⟨y, y1, y2, y3, _⟩ := hto x x1
  rw [← node_eq (mayB_iff.1 hc).1 y1 hx (y3.trans x2)]
  exact y2
 refine ⟨_, ⟨hc, hA, fun a b ha hb => ?_⟩, d2, rfl, fun t => ?_⟩
 ·rw [d2] at ha hb
  refine (h.con a b ha hb).mono ?_
  rintro a b ⟨x, x1, _, rfl, x4⟩
  obtain ⟨y, y1, y2, y3, y4⟩ := hto x x1
  exact ⟨y, y1, y2, y3, y4 b x4⟩
 ·induction t with
  | zero =>
    show roundW s = _
    rw [f3, e, next_eq hc]
    rfl
  | succ t ih =>
    show roundW (roundsW (t + 1) s) = _
    rw [ih, next_eq (rounds_calm hc (t + 1))]
    rfl
theorem whole_fresh {ns : List S40} (h : Whole (ns, [])) (t : Nat) (ht : 6 ≤ t) : Fresh (rounds t ns) := by
 obtain ⟨_, k⟩ := six_rounds h.ok h.up h.con
 obtain ⟨d, rfl⟩ : ∃ d, t = d + 6 := ⟨t - 6, by omega⟩
 clear ht
 induction d with
 | zero => exact k
 | succ d ih => exact full_next (rounds_calm h.ok (d + 6)) ih.full
structure Keeps (s s' : WS) : Prop where
 ok : OkW s'
 up : AllUp s'.1
 ids : s'.1.map nid = s.1.map nid
 kn : ∀ a b, Kn s.1 a b → Kn s'.1 a b
theorem Keeps.trans {s s' s2 : WS} (h : Keeps s s') (k : Keeps s' s2) : Keeps s s2 := ⟨k.ok, k.up, k.ids.trans h.ids, fun a b g => k.kn a b (h.kn a b g)⟩
theorem fresh_view {ns : List S40} (h : Calm ns) (hA : AllUp ns) (F : Fresh ns) {x : S40} (hx : x ∈ ns) : x.f1.f2 = [] ∧ ∀ p, p ∈ x.f1.f1 ↔ p.f1 = 0 ∧ p.f0 ∈ ns.map nid ∧ p.f0 ≠ nid x := by
 have hv := view_of h hx
 have hin : ∀ y, y ∈ ns.map nid → y ≠ nid x → (⟨y, 0⟩ : S98) ∈ x.f1.f1 := fun y hy hn => fh_at h hx (F _ _ ((up_iff hA).2 (List.mem_map.2 ⟨x, hx, rfl⟩)) ((up_iff hA).2 hy) fun e => hn e.symm)
 have hkn : ∀ y ∈ namedN1 x, y ∈ ns.map nid := fun y hy => kn_node h (a := nid x) ⟨x, hx, hA x hx, rfl, hy⟩
 constructor
 ·cases e : x.f1.f2 with
  | nil => rfl
  | cons y ys =>
    have hy : y ∈ x.f1.f2 := by rw [e]; exact List.mem_cons_self ..
    obtain ⟨_, a2, a3⟩ := hv.x y hy
    exact absurd rfl (a3 _ (hin y (hkn y (List.mem_append_right _ hy)) a2))
 ·intro p
  constructor
  ·intro hp
   have h1 := hkn p.f0 (List.mem_append_left _ (mem_idsOf.2 ⟨p, hp, rfl⟩))
   have h2 := (hv.p p hp).2.2.2
   have h3 := hin p.f0 h1 h2
   have := rises_inj hv.rp hp h3 rfl
   exact ⟨by rw [this], h1, h2⟩
  ·rintro ⟨h1, h2, h3⟩
   have := hin p.f0 h2 h3
   rwa [show p = ⟨p.f0, 0⟩ by rw [← h1]]
def OwnerP (N : List Int) (k o : Int) : Prop := o ∈ N ∧ ∀ y ∈ N, farI k o ≤ farI k y
theorem owner_uniq {N : List Int} {k a b : Int} (hp : ∀ y ∈ N, placeB y = true) (ha : OwnerP N k a) (hb : OwnerP N k b) : a = b :=
 farI_inj (hp a ha.1) (hp b hb.1) (show farI k a = farI k b by have := ha.2 b hb.1; have := hb.2 a ha.1; omega)
theorem minFold_le {base : Int} : ∀ {l : List Int} {m : Int}, farI base (l.foldl (minStep base) m) ≤ farI base m ∧ ∀ y ∈ l, farI base (l.foldl (minStep base) m) ≤ farI base y
 | [], m => ⟨Int.le_refl _, fun y hy => (nomatch hy)⟩
 | x :: l, m => by
   obtain ⟨h1, h2⟩ := minFold_le (base := base) (l := l) (m := minStep base m x)
   have h3 : farI base (minStep base m x) ≤ farI base m ∧ farI base (minStep base m x) ≤ farI base x := by
    unfold minStep
    split <;> omega
   rw [List.foldl_cons]
   refine ⟨by omega, fun y hy => ?_⟩
   rcases List.mem_cons.1 hy with rfl | hy
   ·omega
   ·exact h2 y hy
theorem minI_le {base : Int} {l : List Int} {y : Int} (hy : y ∈ l) : farI base (minI base l) ≤ farI base y := by
 cases l with
 | nil => cases hy
 | cons x l =>
   obtain ⟨h1, h2⟩ := minFold_le (base := base) (l := l) (m := x)
   show farI base (l.foldl (minStep base) x) ≤ farI base y
   rcases List.mem_cons.1 hy with rfl | hy
   ·exact h1
   ·exact h2 y hy
theorem vown_min {v : S25} {key : Int} (h : VOk v.f0 v.f1 v.f2) (hk : placeB key = true) : vownI v key = minI key (idsOf v.f1 ++ [v.f0]) := by
 have hv : vownB v key = true := by unfold vownB; rw [viewB_iff.2 h, hk]; rfl
 have hpl : placesB (idsOf v.f1 ++ [v.f0]) = true := by
  refine List.all_eq_true.2 fun y hy => ?_
  rcases List.mem_append.1 hy with hy | hy
  ·obtain ⟨p, hp, rfl⟩ := mem_idsOf.1 hy
   exact (h.p p hp).1
  ·rw [List.mem_singleton.1 hy]; exact h.hid
 have hlen : (idsOf v.f1 ++ [v.f0]).length ≤ 64 := by
  have := h.len
  rw [List.length_append, idsOf_len, List.length_singleton]
  omega
 have hb : ownB (idsOf v.f1 ++ [v.f0]) key = true := by
  unfold ownB rowMayB
  rw [hk, hpl, decide_eq_true hlen]
  simp
 unfold vownI ownI
 rw [if_pos hv, if_pos hb]
theorem vown_owner {v : S25} {key : Int} {N : List Int} (h : VOk v.f0 v.f1 v.f2) (hk : placeB key = true) (hN : ∀ y, (y ∈ idsOf v.f1 ∨ y = v.f0) ↔ y ∈ N) : OwnerP N key (vownI v key) := by
 have hm : ∀ y, y ∈ idsOf v.f1 ++ [v.f0] ↔ y ∈ N := fun y => by rw [List.mem_append, List.mem_singleton]; exact hN y
 rw [vown_min h hk]
 exact ⟨(hm _).1 (minI_mem (by simp)), fun y hy => minI_le ((hm y).2 hy)⟩
theorem fresh_ids {ns : List S40} (h : Calm ns) (hA : AllUp ns) (F : Fresh ns) {x : S40} (hx : x ∈ ns) : (∀ y, (y ∈ idsOf x.f1.f1 ∨ y = x.f1.f0) ↔ y ∈ ns.map nid) ∧ ∀ y, (y ∈ idsOf (stepV x.f1).f1 ∨ y = (stepV x.f1).f0) ↔ y ∈ ns.map nid := by
 obtain ⟨_, v2⟩ := fresh_view h hA F hx
 have hs : ∀ y, y ∈ idsOf (stepV x.f1).f1 ↔ y ∈ idsOf x.f1.f1 := by
  intro y
  rw [mem_idsOf, mem_idsOf]
  constructor
  ·rintro ⟨p, hp, rfl⟩
   obtain ⟨q, hq, _, rfl⟩ := mem_aged.1 hp
   exact ⟨q, hq, rfl⟩
  ·rintro ⟨p, hp, rfl⟩
   exact ⟨_, mem_aged.2 ⟨p, hp, by rw [((v2 p).1 hp).1]; decide, rfl⟩, rfl⟩
 have h1 : ∀ y, (y ∈ idsOf x.f1.f1 ∨ y = x.f1.f0) ↔ y ∈ ns.map nid := by
  intro y
  constructor
  ·rintro (hy | rfl)
   ·obtain ⟨p, hp, rfl⟩ := mem_idsOf.1 hy
    exact ((v2 p).1 hp).2.1
   ·exact List.mem_map.2 ⟨x, hx, rfl⟩
  ·intro hy
   by_cases e : y = x.f1.f0
   ·exact .inr e
   ·exact .inl (mem_idsOf.2 ⟨⟨y, 0⟩, (v2 ⟨y, 0⟩).2 ⟨rfl, hy, e⟩, rfl⟩)
 exact ⟨h1, fun y => by rw [hs]; exact h1 y⟩
theorem ids_place {ns : List S40} (h : Calm ns) : ∀ y ∈ ns.map nid, placeB y = true := fun y hy => placeB_of_node h (isNode_map.2 hy)
theorem own_of {ns : List S40} (h : Calm ns) (hA : AllUp ns) (F : Fresh ns) {k o : Int} (hk : placeB k = true) (ho : OwnerP (ns.map nid) k o) {x : S40} (hx : x ∈ ns) : vownI x.f1 k = o ∧ vownI (stepV x.f1) k = o := by
 obtain ⟨f1, f2⟩ := fresh_ids h hA F hx
 have hv := view_of h hx
 exact ⟨owner_uniq (ids_place h) (vown_owner hv hk f1) ho, owner_uniq (ids_place h) (vown_owner (v := stepV x.f1) (stepV_ok hv) hk f2) ho⟩
theorem share_mem {x : S40} {i : S48} {o : Int} (hi : i ∈ x.f2) (ho : vownI (stepV x.f1) i.f0 = o) (hn : o ≠ nid x) : (⟨1, nid x, o, [], 0, i, false⟩ : S126) ∈ stepM x := by
 unfold stepM
 refine List.mem_append_right _ (List.mem_filterMap.2 ⟨i, hi, ?_⟩)
 have h1 : (vownI (stepV x.f1) i.f0 == (stepV x.f1).f0) = false := by
  rw [ho]
  exact beq_false_of_ne hn
 have h2 : shareTo (stepV x.f1) i.f0 = o := by
  unfold shareTo
  rw [h1]
  exact ho
 unfold shareM
 rw [h2, if_neg (by rw [← ho, h1]; exact Bool.false_ne_true)]
 rfl
theorem stepM_item {x : S40} {m : S126} (h : m ∈ stepM x) (k : m.f0 = 1) : m.f5 ∈ x.f2 := by
 unfold stepM stepH shareL at h
 rcases List.mem_append.1 h with h | h
 ·obtain ⟨d, _, rfl⟩ := List.mem_map.1 h
  exact absurd (show (0 : Int) = 1 from k) (by decide)
 ·obtain ⟨i, hi, e⟩ := List.mem_filterMap.1 h
  unfold shareM at e
  split at e
  ·cases e
  ·rw [← Option.some.inj e]
   exact hi
def ItemIn (ns : List S40) (i : S48) : Prop := ∃ x ∈ ns, i ∈ x.f2
theorem next_item {ns : List S40} (h : Calm ns) (hA : AllUp ns) {i : S48} (k : ItemIn (nextN ns) i) : ItemIn ns i := by
 obtain ⟨x', hx, hi⟩ := k
 obtain ⟨x, h1, _, _, L, h4, h5, _⟩ := next_from h hx (allUp_next h hA x' hx)
 rcases h4.orig i hi with h6 | ⟨m, hm, e1, e2⟩
 ·exact ⟨x, h1, h6⟩
 ·obtain ⟨z, z1, _, z3, _⟩ := h5 m hm
  exact ⟨z, z1, e2 ▸ stepM_item z3 e1⟩
theorem item_ok_in {ns : List S40} (h : Calm ns) {i : S48} (k : ItemIn ns i) : itemOk i = true := by
 obtain ⟨x, hx, hi⟩ := k
 exact (storeB_iff.1 (nodeB_iff.1 ((nodesB_iff.1 (mayB_iff.1 h).1).2.2.1 x hx)).2.2.1).2.1 i hi
def BestK (k : Int) : Option S48 → List S40 → Prop
 | some y, ns => ItemIn ns y ∧ y.f0 = k ∧ ∀ i, ItemIn ns i → i.f0 = k → rankI i ≤ rankI y
 | none, ns => ∀ i, ItemIn ns i → i.f0 ≠ k
theorem next_owner {ns : List S40} (h : Calm ns) (hA : AllUp ns) (F : Fresh ns) {Ks : List Int} (hl : Ks.length ≤ 16) (hKs : ∀ i, ItemIn ns i → i.f0 ∈ Ks) {k o : Int} (hk : placeB k = true) (ho : OwnerP (ns.map nid) k o) {z' : S40} (hz : z' ∈ nextN ns) (e : nid z' = o) {i : S48} (hi : ItemIn ns i) (ei : i.f0 = k) : ∃ b ∈ z'.f2, b.f0 = k ∧ rankI i ≤ rankI b := by
 obtain ⟨z, h1, _, h3, L, h4, h5, h6⟩ := next_from h hz (allUp_next h hA z' hz)
 obtain ⟨x, hx, hi⟩ := hi
 by_cases hxz : nid x = o
 ·have : x = z := node_eq (mayB_iff.1 h).1 hx h1 (by rw [hxz, h3, e])
  subst this
  obtain ⟨b, hb, e1, r⟩ := h4.mono i hi
  exact ⟨b, hb, e1.trans ei, r⟩
 ·have hm := share_mem (o := o) hi (by rw [ei]; exact (own_of h hA F hk ho hx).2) fun e2 => hxz e2.symm
  have hL := h6 x hx (hA x hx) _ hm (by show o = nid z; rw [h3, e])
  obtain ⟨b, hb, e1, r⟩ := h4.has Ks hl (fun a ha => hKs a ⟨z, h1, ha⟩) (fun m hm2 k1 => by
   obtain ⟨q, q1, _, q3, _⟩ := h5 m hm2
   exact hKs _ ⟨q, q1, stepM_item q3 k1⟩) _ hL rfl
  exact ⟨b, hb, e1.trans ei, r⟩
theorem best_next {ns : List S40} (h : Calm ns) (hA : AllUp ns) (F : Fresh ns) {Ks : List Int} (hl : Ks.length ≤ 16) (hKs : ∀ i, ItemIn ns i → i.f0 ∈ Ks) {k o : Int} (hk : placeB k = true) (ho : OwnerP (ns.map nid) k o) {r : Option S48} (hB : BestK k r ns) : BestK k r (nextN ns) ∧ ∀ z' ∈ nextN ns, nid z' = o → getI z'.f2 k = r := by
 have c := next_calm h
 have hst : ∀ z' ∈ nextN ns, storeB z'.f2 = true := fun z' hz => (nodeB_iff.1 ((nodesB_iff.1 (mayB_iff.1 c).1).2.2.1 z' hz)).2.2.1
 cases r with
 | none =>
   have hn : ∀ i, ItemIn (nextN ns) i → i.f0 ≠ k := fun i hi => hB i (next_item h hA hi)
   exact ⟨hn, fun z' hz e => (getI_none (hst z' hz)).2 fun i hi => hn i ⟨z', hz, hi⟩⟩
 | some y =>
   obtain ⟨b1, b2, b3⟩ := hB
   have hy : ∀ z' ∈ nextN ns, nid z' = o → y ∈ z'.f2 := fun z' hz e => by
    obtain ⟨b, hb, e1, r⟩ := next_owner h hA F hl hKs hk ho hz e b1 b2
    have hbi := next_item h hA ⟨z', hz, hb⟩
    have r2 := b3 b hbi e1
    have : b = y := rank_inj (item_ok_in h hbi) (item_ok_in h b1) (e1.trans b2.symm) (by omega)
    exact this ▸ hb
   obtain ⟨o', ho', eo⟩ := List.mem_map.1 (show o ∈ (nextN ns).map nid from next_map h ▸ ho.1)
   exact ⟨⟨⟨o', ho', hy o' ho' eo⟩, b2, fun i hi => b3 i (next_item h hA hi)⟩, fun z' hz e => (getI_some (hst z' hz)).2 ⟨hy z' hz e, b2⟩⟩
theorem best_rounds {ns : List S40} (h : Calm ns) (hA : AllUp ns) (F : Fresh ns) {Ks : List Int} (hl : Ks.length ≤ 16) (hKs : ∀ i, ItemIn ns i → i.f0 ∈ Ks) {k o : Int} (hk : placeB k = true) (ho : OwnerP (ns.map nid) k o) {r : Option S48} (hB : BestK k r ns) : ∀ t, (∀ i, ItemIn (rounds t ns) i → ItemIn ns i) ∧ BestK k r (rounds t ns) ∧ (0 < t → ∀ z ∈ rounds t ns, nid z = o → getI z.f2 k = r)
 | 0 => ⟨fun _ hi => hi, hB, fun h0 => absurd h0 (Nat.lt_irrefl 0)⟩
 | t + 1 => by
   obtain ⟨i1, i2, _⟩ := best_rounds h hA F hl hKs hk ho hB t
   have c := rounds_calm h t
   have a := allUp_rounds h hA t
   obtain ⟨b1, b2⟩ := best_next c a (fresh_rounds h F t) hl (fun i hi => hKs i (i1 i hi)) hk (by rw [rounds_map h t]; exact ho) i2
   exact ⟨fun i hi => i1 i (next_item c a hi), b1, fun _ => b2⟩
theorem set_same_getElem {ns : List S40} {j : Nat} {x : S40} (hx : ns[j]? = some x) : ns.set j x = ns := set_same hx
theorem place_of {s : WS} (h : OkW s) {j : Nat} {x : S40} (hx : s.1[j]? = some x) : placeN s.1 (nid x) = j := by
 obtain ⟨y, hy, e⟩ := place_some h (h.node hx).2.1
 exact node_idx (mayB_iff.1 h).1 hy hx e
theorem log_round {ns : List S40} (h : Calm ns) {j : Nat} {x : S40} (hx : ns[j]? = some x) (hu : x.f0 = true) : ∃ x', (roundW (ns, [])).1[j]? = some x' ∧ x'.f3 = x.f3 := by
 obtain ⟨L, x', l1, l2, l3, _⟩ := ((round_law h).2.2 j x hx).2 hu
 refine ⟨x', l1, l2.log fun m hm => ?_⟩
 obtain ⟨z, _, _, z3, _⟩ := l3 m hm
 rcases stepM_kind z3 with k | k <;> omega
theorem get_round {ns : List S40} (h : Calm ns) (hA : AllUp ns) (F : Fresh ns) {k o : Int} (hk : placeB k = true) (ho : OwnerP (ns.map nid) k o) {r : Option S48} (hr : ∀ z ∈ ns, nid z = o → getI z.f2 k = r) {j : Nat} {x : S40} (hx : ns[j]? = some x) :
 ∃ x', (roundW (getW (ns, []) (nid x) k)).1[j]? = some x' ∧ x'.f3 = noteL x.f3 (noteT k (r.getD z48) r.isSome) := by
 have hxm := List.mem_of_getElem? hx
 have hu := hA x hxm
 have hpj : placeN ns (nid x) = j := place_of h hx
 have hv := (own_of h hA F hk ho hxm).1
 have hlt := (List.getElem?_eq_some_iff.1 hx).1
 obtain ⟨g1, g2⟩ := get_may h hx hu hk
 have hb := nodesB_iff.1 (mayB_iff.1 h).1
 have hget : getW (ns, []) (nid x) k = (ns.set j (getN x k), getM x k) := by
  unfold getW
  simp only
  rw [hpj, hx]
  simp only
  rw [sendQ_all (by have := (getM_ok (h.node hx).1 hk).1; simp; omega)]
  simp
 have hfin : ∀ T : S77, nodeB ⟨x.f0, x.f1, x.f2, noteL x.f3 T⟩ = true → ∃ x', (roundW (ns.set j ⟨x.f0, x.f1, x.f2, noteL x.f3 T⟩, [])).1[j]? = some x' ∧ x'.f3 = noteL x.f3 T := by
  intro T hT
  have hc : Calm (ns.set j ⟨x.f0, x.f1, x.f2, noteL x.f3 T⟩) := by
   obtain ⟨a1, a2, a3, a4⟩ := mayB_iff.1 h
   exact may_set h hx hT rfl (fun z hz => (h.node hx).2.2 z hz) a2 a4
  obtain ⟨x', e1, e2⟩ := log_round hc (j := j) (x := ⟨x.f0, x.f1, x.f2, noteL x.f3 T⟩) (by rw [List.getElem?_set]; simp [hlt]) hu
  exact ⟨x', e1, e2⟩
 have hown : (vownI x.f1 k == x.f1.f0) = decide (o = nid x) := by
  rw [hv]
  show (o == nid x) = decide (o = nid x)
  by_cases e : o = nid x
  ·rw [decide_eq_true e, e, beq_self_eq_true]
  ·rw [decide_eq_false e, beq_false_of_ne e]
 by_cases e : o = nid x
 ·have hgn : getN x k = ⟨x.f0, x.f1, x.f2, noteL x.f3 (noteT k (r.getD z48) r.isSome)⟩ := by
   unfold getN
   rw [if_pos (by rw [hown]; simpa using e), hr x hxm e.symm]
  have hgm : getM x k = [] := by
   unfold getM
   rw [if_pos (by rw [hown]; simpa using e)]
  rw [hget, hgm, hgn]
  exact hfin _ (hgn ▸ (getN_ok (h.node hx).1 hu hk).1)
 ·have hgn : getN x k = x := by
   unfold getN
   rw [if_neg (by rw [hown]; simpa using e)]
  have hgm : getM x k = [⟨2, nid x, o, [], k, z48, false⟩] := by
   unfold getM
   rw [if_neg (by rw [hown]; simpa using e), hv]
   rfl
  rw [hget, hgm, hgn, set_same_getElem hx]
  rw [hgn, hgm, set_same_getElem hx] at g2
  have hd : OkW (ns, [⟨2, nid x, o, [], k, z48, false⟩]) := g2
  obtain ⟨z, hz, ez, d1⟩ := deliver_cons hd
  simp only at hz ez d1
  have hzm := List.mem_of_getElem? hz
  have hzu := hA z hzm
  have hhn : handN z ⟨2, nid x, o, [], k, z48, false⟩ = z := by unfold handN; rfl
  have hhm : handM z ⟨2, nid x, o, [], k, z48, false⟩ = [⟨3, o, nid x, [], k, r.getD z48, r.isSome⟩] := by
   unfold handM
   rw [if_pos rfl]
   simp only
   rw [hr z hzm ez, show z.f1.f0 = o from ez]
  rw [if_pos hzu, hhn, hhm, set_same_getElem hz, List.nil_append] at d1
  have hok1 := deliverW_ok hd 0
  rw [d1] at hok1
  obtain ⟨y, hy, ey, d2⟩ := deliver_cons (m := ⟨3, o, nid x, [], k, r.getD z48, r.isSome⟩) (ms := []) hok1
  simp only at hy ey d2
  have hyx : y = x := node_eq (mayB_iff.1 h).1 (List.mem_of_getElem? hy) hxm ey
  subst hyx
  have hpn : placeN ns (nid y) = j := hpj
  have hhn2 : handN y ⟨3, o, nid y, [], k, r.getD z48, r.isSome⟩ = ⟨y.f0, y.f1, y.f2, noteL y.f3 (noteT k (r.getD z48) r.isSome)⟩ := by unfold handN; rfl
  have hhm2 : handM y ⟨3, o, nid y, [], k, r.getD z48, r.isSome⟩ = [] := by unfold handM; rfl
  rw [if_pos hu, hhn2, hhm2, hpn, List.nil_append] at d2
  have hok2 := deliverW_ok hok1 0
  rw [d2] at hok2
  have hall : deliverAll 1024 (ns, [⟨2, nid y, o, [], k, z48, false⟩]) = (ns.set j ⟨y.f0, y.f1, y.f2, noteL y.f3 (noteT k (r.getD z48) r.isSome)⟩, []) := by
   rw [deliverAll_next 1023 (by simp), d1, deliverAll_next 1022 (by simp)]
   rw [d2, deliverAll_nil _ (by simp)]
  rw [(round_first hd).2.2, hall]
  refine hfin _ ?_
  have hlt2 : (ns.set j (⟨y.f0, y.f1, y.f2, noteL y.f3 (noteT k (r.getD z48) r.isSome)⟩ : S40))[j]? = some ⟨y.f0, y.f1, y.f2, noteL y.f3 (noteT k (r.getD z48) r.isSome)⟩ := by rw [List.getElem?_set]; simp [hlt]
  exact (hok2.node hlt2).1
section
open Go
theorem and_mask (x : Int) (i : Nat) (hi : i ≤ 63) : Go.bits .and .i64 x (2 ^ i - 1) = x % 2 ^ i := by
 have hp : (0:Nat) < 2 ^ i := Nat.two_pow_pos i
 have hc : ((2 : Int) ^ i - 1) = ((2 ^ i - 1 : Nat) : Int) := by
  rw [Int.natCast_sub hp]; simp
 have h64 : (2:Nat)^i ≤ 2^63 := Nat.pow_le_pow_right (by decide) hi
 simp only [bits]
 have e1 : (BitVec.ofInt 64 (2^i - 1 : Int)).toNat = 2^i - 1 := by
  rw [hc, BitVec.ofInt_natCast, BitVec.toNat_ofNat]
  exact Nat.mod_eq_of_lt (by omega)
 have e2 : ((BitVec.ofInt 64 x).toNat : Int) = x % 2^64 := by
  rw [BitVec.toNat_ofInt]
  simp; omega
 have e3 : (((BitVec.ofInt 64 x).toNat &&& (2^i - 1) : Nat) : Int) = x % 2^i := by
  rw [Nat.and_two_pow_sub_one_eq_mod]
  have : (((BitVec.ofInt 64 x).toNat % 2^i : Nat) : Int) = ((BitVec.ofInt 64 x).toNat : Int) % ((2:Int)^i) := by simp
  rw [this, e2]
  have hd : ((2:Int)^i) ∣ 2^64 := by
   refine ⟨2^(64-i), ?_⟩
   rw [← Int.pow_add]; congr 1; omega
  exact Int.emod_emod_of_dvd x hd
 show IntKind.i64.wrap _ = _
 have : (BitVec.ofInt IntKind.i64.bits x &&& BitVec.ofInt IntKind.i64.bits (2 ^ i - 1)).toNat = (BitVec.ofInt 64 x).toNat &&& (2^i - 1) := by
  rw [BitVec.toNat_and]
  show (BitVec.ofInt 64 x).toNat &&& (BitVec.ofInt 64 (2 ^ i - 1)).toNat = _
  rw [e1]
 rw [this, e3, IntKind.wrap_i64]
 have hpi : (0:Int) < 2 ^ i := by exact_mod_cast hp
 have h1 : 0 ≤ x % 2^i := Int.emod_nonneg _ (Int.ne_of_gt hpi)
 have h2 : x % 2^i < 2^i := Int.emod_lt_of_pos _ hpi
 have h3 : ((2:Int) ^ i) ≤ 2 ^ 63 := by
  have e : ((2 ^ i : Nat) : Int) ≤ ((2 ^ 63 : Nat) : Int) := Int.ofNat_le.mpr h64
  rwa [Int.natCast_pow, Int.natCast_pow] at e
 have h4 : x % 2^i < 2 ^ 63 := Int.lt_of_lt_of_le h2 h3
 generalize x % 2^i = y at h1 h4 ⊢
 clear h2 h3 e3 hc h64 hpi
 have h5 : y < 9223372036854775808 := h4
 clear h4
 omega
theorem place255 (x : Int) : placeB (Go.bits .and .i64 x 255) = true := by
 rw [placeB_iff, show Go.bits .and .i64 x 255 = x % 256 from and_mask x 8 (by decide)]
 exact ⟨Int.emod_nonneg _ (by decide), Int.emod_lt_of_pos _ (by decide)⟩
theorem put_get {l : List S48} {i : S48} (h : storeB l = true) (hi : itemOk i = true) (he : putE l i = 0) :
 getI (putL l i) i.f0 = some (match getI l i.f0 with | none => i | some b => bestI b i) := by
 have hs := put_ok h hi he
 rw [getI_some hs]
 obtain ⟨h1, h2, hr⟩ := storeB_iff.1 h
 cases hg : getI l i.f0 with
 | some b =>
   obtain ⟨hb, e⟩ := (getI_some h).1 hg
   obtain ⟨_, e2⟩ := put_in h hi hb e
   rw [e2]
   exact ⟨mem_ins.2 (.inl rfl), (bestI_key (h2 b hb) hi e).1⟩
 | none =>
   have hn := (getI_none h).1 hg
   obtain ⟨n1, n2⟩ := put_new h hi hn
   have h16 : l.length ≠ 16 := fun e => by have := n1 e; omega
   rw [(n2 h16).2]
   exact ⟨mem_ins.2 (.inl rfl), rfl⟩
theorem best_of {a b : S48} (ha : itemOk a = true) (hb : itemOk b = true) (e : a.f0 = b.f0) (hv : (a.f1.f0 == b.f1.f0 && a.f1.f1 == b.f1.f1) = false) :
 bestE a b = 0 ∧ bestI a b = if newerB a.f1.f0 a.f1.f1 b.f1.f0 b.f1.f1 then a else b := by
 have hB : bestB a b = true := by unfold bestB; rw [ha, hb]; simpa using e
 refine ⟨by unfold bestE; rw [if_pos hB], ?_⟩
 unfold bestI betterB
 rw [if_pos hB, hv]
 simp
theorem write_ok {id : Int} {is : List S48} {k v : Int} {g : Bool} (hs : storeB is = true) (hk : placeB k = true) (hv : placeB v = true) (hid : placeB id = true) (hg : (!g || v == 0) = true) (ho : 0 ≤ ((getI is k).getD z48).f1.f0) (hw : writeB id is k v g = true) :
 itemOk (writeI id is k v g) = true ∧ putE is (writeI id is k v g) = 0 := by
 unfold writeB at hw
 simp only [Bool.and_eq_true, decide_eq_true_eq, beq_iff_eq] at hw
 refine ⟨?_, hw.2⟩
 have h1 := hw.1
 unfold itemOk itemB verB
 simp only [Bool.and_eq_true, decide_eq_true_eq]
 exact ⟨⟨⟨hk, hv⟩, ⟨by show 1 ≤ ((getI is k).getD z48).f1.f0 + 1; omega, h1⟩, hid⟩, hg⟩
theorem write_get {id : Int} {is : List S48} {k v : Int} {g : Bool} (hs : storeB is = true) (hk : placeB k = true) (hv : placeB v = true) (hid : placeB id = true) (hg : (!g || v == 0) = true) (ho : 0 ≤ ((getI is k).getD z48).f1.f0) (hw : writeB id is k v g = true) :
 storeB (putL is (writeI id is k v g)) = true ∧ getI (putL is (writeI id is k v g)) k = some (writeI id is k v g) := by
 obtain ⟨h1, h2⟩ := write_ok hs hk hv hid hg ho hw
 refine ⟨put_ok hs h1 h2, ?_⟩
 have h3 := put_get hs h1 h2
 rw [show (writeI id is k v g).f0 = k from rfl] at h3
 rw [h3]
 cases hb : getI is k with
 | none => rfl
 | some b =>
   obtain ⟨hm, e⟩ := (getI_some hs).1 hb
   have hob := (storeB_iff.1 hs).2.1 b hm
   have hc : (writeI id is k v g).f1.f0 = b.f1.f0 + 1 := by
    show ((getI is k).getD z48).f1.f0 + 1 = _
    rw [hb]
    rfl
   have hne : (b.f1.f0 == (writeI id is k v g).f1.f0 && b.f1.f1 == (writeI id is k v g).f1.f1) = false := by
    rw [hc]
    simp only [Bool.and_eq_false_iff, beq_eq_false_iff_ne]
    exact .inl (by omega)
   have h5 := (best_of hob h1 e hne).2
   simp only
   rw [h5, if_neg]
   unfold newerB
   rw [hc]
   simp
   omega
end
def bestStep (k : Int) (acc : Option S48) (i : S48) : Option S48 := if i.f0 = k then (match acc with | none => some i | some x => some (bestI x i)) else acc
def bestOpt (k : Int) (l : List S48) : Option S48 := l.foldl (bestStep k) none
def keyStep (ks : List Int) (i : S48) : List Int := if memB ks i.f0 then ks else ks ++ [i.f0]
def keysL (l : List S48) : List Int := l.foldl keyStep []
def allI (s : WS) : List S48 := s.1.flatMap (fun x => x.f2) ++ (s.2.filter fun m => m.f0 == 1).map fun m => m.f5
theorem keysFold {l : List S48} : ∀ {ks : List Int}, (∀ y ∈ ks, y ∈ l.foldl keyStep ks) ∧ ∀ i ∈ l, i.f0 ∈ l.foldl keyStep ks := by
 induction l with
 | nil => exact ⟨fun _ h => h, fun _ h => (nomatch h)⟩
 | cons x l ih =>
   intro ks
   obtain ⟨h1, h2⟩ := ih (ks := keyStep ks x)
   have h3 : ∀ y ∈ ks, y ∈ keyStep ks x := fun y hy => by
    unfold keyStep
    split
    ·exact hy
    ·exact List.mem_append_left _ hy
   have h4 : x.f0 ∈ keyStep ks x := by
    unfold keyStep
    split
    ·rename_i h; exact memB_iff.1 h
    ·exact List.mem_append_right _ (List.mem_singleton.2 rfl)
   rw [List.foldl_cons]
   refine ⟨fun y hy => h1 y (h3 y hy), fun i hi => ?_⟩
   rcases List.mem_cons.1 hi with rfl | hi
   ·exact h1 _ h4
   ·exact h2 i hi
theorem bestFold {k : Int} : ∀ {l : List S48} {acc : Option S48}, (∀ i ∈ l, itemOk i = true) → (∀ x, acc = some x → itemOk x = true ∧ x.f0 = k) →
 match l.foldl (bestStep k) acc with
 | some y => y.f0 = k ∧ itemOk y = true ∧ (y ∈ l ∨ acc = some y) ∧ (∀ i ∈ l, i.f0 = k → rankI i ≤ rankI y) ∧ ∀ x, acc = some x → rankI x ≤ rankI y
 | none => acc = none ∧ ∀ i ∈ l, i.f0 ≠ k := by
 intro l
 induction l with
 | nil =>
   intro acc _ ha
   cases acc with
   | none => exact ⟨rfl, fun _ h => (nomatch h)⟩
   | some x => exact ⟨(ha x rfl).2, (ha x rfl).1, .inr rfl, fun _ h => (nomatch h), fun y e => by rw [Option.some.inj e]; exact Int.le_refl _⟩
 | cons x l ih =>
   intro acc hl ha
   have hx := hl x (List.mem_cons_self ..)
   rw [List.foldl_cons]
   by_cases hk : x.f0 = k
   ·cases acc with
    | none =>
      have e : bestStep k none x = some x := by unfold bestStep; rw [if_pos hk]
      rw [e]
      have h := ih (acc := some x) (fun i hi => hl i (List.mem_cons_of_mem _ hi)) (fun y ey => by rw [← Option.some.inj ey]; exact ⟨hx, hk⟩)
      split at h
      ·rename_i y e2
       obtain ⟨h1, h2, h3, h4, h5⟩ := h
       refine ⟨h1, h2, .inl ?_, fun i hi ei => ?_, fun z ez => (nomatch ez)⟩
       ·rcases h3 with h3 | h3
        ·exact List.mem_cons_of_mem _ h3
        ·rw [← Option.some.inj h3]; exact List.mem_cons_self ..
       ·rcases List.mem_cons.1 hi with rfl | hi
        ·exact h5 _ rfl
        ·exact h4 i hi ei
      ·exact absurd h.1 (by simp)
    | some z =>
      obtain ⟨z1, z2⟩ := ha z rfl
      have e : bestStep k (some z) x = some (bestI z x) := by unfold bestStep; rw [if_pos hk]
      obtain ⟨k1, k2, k3⟩ := bestI_key z1 hx (z2.trans hk.symm)
      obtain ⟨g1, g2⟩ := best_ge z1 hx (z2.trans hk.symm)
      rw [e]
      have h := ih (acc := some (bestI z x)) (fun i hi => hl i (List.mem_cons_of_mem _ hi)) (fun y ey => by rw [← Option.some.inj ey]; exact ⟨k2, k1.trans hk⟩)
      split at h
      ·rename_i y e2
       obtain ⟨h1, h2, h3, h4, h5⟩ := h
       have h6 := h5 _ rfl
       refine ⟨h1, h2, ?_, fun i hi ei => ?_, fun q eq => ?_⟩
       ·rcases h3 with h3 | h3
        ·exact .inl (List.mem_cons_of_mem _ h3)
        ·rcases k3 with k3 | k3
         ·exact .inr (by rw [← k3]; exact h3)
         ·exact .inl (by rw [← Option.some.inj h3, k3]; exact List.mem_cons_self ..)
       ·rcases List.mem_cons.1 hi with rfl | hi
        ·omega
        ·exact h4 i hi ei
       ·rw [← Option.some.inj eq]; omega
      ·exact absurd h.1 (by simp)
   ·have e : bestStep k acc x = acc := by unfold bestStep; rw [if_neg hk]
    rw [e]
    have h := ih (acc := acc) (fun i hi => hl i (List.mem_cons_of_mem _ hi)) ha
    split at h
    ·rename_i y e2
     obtain ⟨h1, h2, h3, h4, h5⟩ := h
     refine ⟨h1, h2, h3.imp (List.mem_cons_of_mem _) id, fun i hi ei => ?_, h5⟩
     rcases List.mem_cons.1 hi with rfl | hi
     ·exact absurd ei hk
     ·exact h4 i hi ei
    ·refine ⟨h.1, fun i hi => ?_⟩
     rcases List.mem_cons.1 hi with rfl | hi
     ·exact hk
     ·exact h.2 i hi
theorem mem_allI {ns : List S40} {i : S48} : i ∈ allI (ns, []) ↔ ItemIn ns i := by
 unfold allI ItemIn
 simp [List.mem_flatMap]
theorem best_all {ns : List S40} (h : Calm ns) (k : Int) : BestK k (bestOpt k (allI (ns, []))) ns := by
 have hb := bestFold (k := k) (l := allI (ns, [])) (acc := none) (fun i hi => item_ok_in h (mem_allI.1 hi)) (fun x e => (nomatch e))
 unfold bestOpt
 split at hb
 ·rename_i y e
  rw [e]
  obtain ⟨h1, _, h3, h4, _⟩ := hb
  exact ⟨mem_allI.1 (h3.resolve_right (by simp)), h1, fun i hi ei => h4 i (mem_allI.2 hi) ei⟩
 ·rename_i e
  rw [e]
  exact fun i hi => hb.2 i (mem_allI.2 hi)
theorem start_items {s : WS} (h : Whole s) {i : S48} (hi : ItemIn (deliverAll 1024 s).1 i) : i ∈ allI s := by
 have h512 := (queueB_iff.1 (mayB_iff.1 h.ok).2.1).1
 have hn : s.2.length + asks s.2 ≤ 1024 := by have := asks_le s.2; omega
 obtain ⟨_, d2, _⟩ := deliver_fold 1024 h.ok hn
 obtain ⟨x', hx, hi⟩ := hi
 obtain ⟨j, hj, rfl⟩ := List.getElem_of_mem hx
 have hlen : (deliverAll 1024 s).1.length = s.1.length := by have := congrArg List.length d2; simpa using this
 have hj2 : j < s.1.length := hlen ▸ hj
 obtain ⟨L, y, l1, l2, _, l4, _⟩ := deliver_heard 1024 h.ok hn (List.getElem?_eq_getElem hj2) (h.up _ (List.getElem_mem hj2))
 rw [List.getElem?_eq_getElem hj] at l1
 obtain rfl := Option.some.inj l1
 unfold allI
 rcases l2.orig i hi with h1 | ⟨m, hm, e1, e2⟩
 ·exact List.mem_append_left _ (List.mem_flatMap.2 ⟨_, List.getElem_mem hj2, h1⟩)
 ·rcases (l4 m hm).2 with h3 | ⟨h3, _⟩
  ·exact List.mem_append_right _ (List.mem_map.2 ⟨m, List.mem_filter.2 ⟨h3, by simpa using e1⟩, e2⟩)
  ·omega
theorem rounds_item {ns : List S40} (h : Calm ns) (hA : AllUp ns) {i : S48} : ∀ t, ItemIn (rounds t ns) i → ItemIn ns i
 | 0, k => k
 | t + 1, k => rounds_item h hA t (next_item (rounds_calm h t) (allUp_rounds h hA t) k)
theorem put_calm {ns : List S40} (h : Calm ns) (hA : AllUp ns) (F : Fresh ns) {i : Nat} {x : S40} {k v : Int} (hx : ns[i]? = some x) (hk : placeB k = true) (hv : placeB v = true) :
 putW (ns, []) (nid x) k v = (ns.set i (putNd x k v), []) ∧ Calm (ns.set i (putNd x k v)) ∧ AllUp (ns.set i (putNd x k v)) ∧ Fresh (ns.set i (putNd x k v)) ∧ (ns.set i (putNd x k v)).map nid = ns.map nid := by
 have hu := hA x (List.mem_of_getElem? hx)
 have hp : placeN ns (nid x) = i := place_of h hx
 obtain ⟨n1, n2, n3, n4⟩ := putNd_ok (h.node hx).1 hu hk hv
 have hc : Calm (ns.set i (putNd x k v)) := put_may h hx hu hk hv
 have hw : Keeps (ns, []) (ns.set i (putNd x k v), []) → True := fun _ => trivial
 have hA2 : AllUp (ns.set i (putNd x k v)) := fun z hz => by
  rcases List.mem_or_eq_of_mem_set hz with hz | rfl
  ·exact hA z hz
  ·exact n4
 have hm : (ns.set i (putNd x k v)).map nid = ns.map nid := set_map hx n2
 refine ⟨by unfold putW; simp only; rw [hp, hx], hc, hA2, fun a b ha hb hn => ?_, hm⟩
 have ha' := (up_iff hA).2 (hm ▸ (up_iff hA2).1 ha)
 have hb' := (up_iff hA).2 (hm ▸ (up_iff hA2).1 hb)
 obtain ⟨z, z1, z2, z3, z4⟩ := F a b ha' hb' hn
 obtain ⟨j, hj, rfl⟩ := List.getElem_of_mem z1
 by_cases e : i = j
 ·subst e
  rw [List.getElem?_eq_getElem hj] at hx
  obtain rfl := Option.some.inj hx
  exact ⟨_, List.mem_set hj _, n4, n2.trans z3, by rw [n3]; exact z4⟩
 ·refine ⟨_, List.mem_of_getElem? (i := j) (by rw [List.getElem?_set, if_neg e]; exact List.getElem?_eq_getElem hj), z2, z3, z4⟩
theorem put_items {ns : List S40} (h : Calm ns) {i : Nat} {x : S40} {k v : Int} (hx : ns[i]? = some x) (hu : x.f0 = true) (hk : placeB k = true) (hv : placeB v = true) {a : S48} (ha : ItemIn (ns.set i (putNd x k v)) a) : ItemIn ns a ∨ a.f0 = k := by
 obtain ⟨z, hz, ha⟩ := ha
 rcases List.mem_or_eq_of_mem_set hz with hz | rfl
 ·exact .inl ⟨z, hz, ha⟩
 ·have hn := (h.node hx).1
  unfold putNd at ha
  split at ha
  ·rename_i hw
   obtain ⟨_, h2, h3, _⟩ := nodeB_iff.1 hn
   obtain ⟨w1, w2⟩ := write_ok h3 hk hv h2.hid rfl (old_bounds hn k).1 hw
   have e : takeL x.f2 (writeI x.f1.f0 x.f2 k v false) = putL x.f2 (writeI x.f1.f0 x.f2 k v false) := by
    unfold takeL
    rw [if_pos (by simpa using w2)]
   simp only at ha
   rw [← e] at ha
   rcases (take_items h3 w1).2.1 a ha with h5 | h5
   ·exact .inl ⟨x, List.mem_of_getElem? hx, h5⟩
   ·exact .inr (by rw [h5]; rfl)
  ·exact .inl ⟨x, List.mem_of_getElem? hx, ha⟩
theorem noteL_last (ls : List S77) (T : S77) : (noteL ls T).getLast? = some T ∧ noteL ls T ≠ [] := by
 have h : (noteL ls T).getLast? = some T := by
  unfold noteL
  rw [List.getLast?_drop, if_neg (by simp; omega)]
  simp
 exact ⟨h, fun e => by rw [e] at h; cases h⟩
theorem owner_ex {N : List Int} (k : Int) (h : N ≠ []) : ∃ o, OwnerP N k o :=
 ⟨minI k N, minI_mem (List.length_pos_iff.2 h), fun _ hy => minI_le hy⟩
theorem spread_law {s : WS} (h : Whole s) {k v : Int} (hk : placeB k = true) (hv : placeB v = true) (hm : (keysL (allI s)).length < 16) :
 ∃ ns : List S40, roundsW 8 s = (ns, []) ∧ Calm ns ∧ AllUp ns ∧ ns.length = s.1.length ∧ ∀ (i j : Nat) (xi xj : S40), ns[i]? = some xi → ns[j]? = some xj →
   putW (ns, []) (nid xi) k v = (ns.set i (putNd xi k v), []) ∧ Calm (ns.set i (putNd xi k v)) ∧
   ∃ cs : List S40, roundsW 3 (ns.set i (putNd xi k v), []) = (cs, []) ∧ Calm cs ∧ AllUp cs ∧ cs.length = ns.length ∧ ∃ yj : S40, cs[j]? = some yj ∧ nid yj = nid xj ∧
   ∃ zj : S40, (roundW (getW (cs, []) (nid yj) k)).1[j]? = some zj ∧ zj.f3 ≠ [] ∧ zj.f3.getLast? = some (noteT k ((bestOpt k (allI (ns.set i (putNd xi k v), []))).getD z48) (bestOpt k (allI (ns.set i (putNd xi k v), []))).isSome) := by
 obtain ⟨n0, w, e1, e0, e2⟩ := start_law h
 have e3 : roundsW 8 s = (rounds 8 n0, []) := e2 7
 have c8 : Calm (rounds 8 n0) := rounds_calm w.ok 8
 have a8 : AllUp (rounds 8 n0) := allUp_rounds w.ok w.up 8
 have f8 : Fresh (rounds 8 n0) := whole_fresh w 8 (by decide)
 have m8 : (rounds 8 n0).map nid = s.1.map nid := (rounds_map w.ok 8).trans e1
 have i8 : ∀ i, ItemIn (rounds 8 n0) i → i.f0 ∈ keysL (allI s) := fun i hi => by
  have h1 := rounds_item w.ok w.up 8 hi
  rw [e0] at h1
  exact (keysFold (ks := [])).2 i (start_items h h1)
 clear e2
 generalize rounds 8 n0 = ns at e3 c8 a8 f8 m8 i8
 refine ⟨ns, e3, c8, a8, by have := congrArg List.length m8; simpa using this, fun i j xi xj hi hj => ?_⟩
 obtain ⟨p1, p2, p3, p4, p5⟩ := put_calm c8 a8 f8 hi hk hv
 have pi : ∀ a, ItemIn (ns.set i (putNd xi k v)) a → a.f0 ∈ k :: keysL (allI s) := fun a ha => by
  rcases put_items c8 hi (a8 xi (List.mem_of_getElem? hi)) hk hv ha with h1 | h1
  ·exact List.mem_cons_of_mem _ (i8 a h1)
  ·exact h1 ▸ List.mem_cons_self ..
 have hlb : (ns.set i (putNd xi k v)).length = ns.length := List.length_set ..
 generalize ns.set i (putNd xi k v) = bs at p1 p2 p3 p4 p5 pi hlb ⊢
 refine ⟨p1, p2, ?_⟩
 have hne : bs.map nid ≠ [] := fun e => by
  have h1 : 1 ≤ bs.length := (nodesB_iff.1 (mayB_iff.1 p2).1).1
  have := congrArg List.length e
  rw [List.length_map, List.length_nil] at this
  omega
 obtain ⟨o, ho⟩ := owner_ex k hne
 obtain ⟨b1, b2, b3⟩ := best_rounds p2 p3 p4 (Ks := k :: keysL (allI s)) (by rw [List.length_cons]; omega) pi hk ho (best_all p2 k) 3
 have r3 := b3 (by decide)
 have c3 : Calm (rounds 3 bs) := rounds_calm p2 3
 have a3 : AllUp (rounds 3 bs) := allUp_rounds p2 p3 3
 have f3 : Fresh (rounds 3 bs) := fresh_rounds p2 p4 3
 have m3 : (rounds 3 bs).map nid = bs.map nid := rounds_map p2 3
 have e4 : roundsW 3 (bs, []) = (rounds 3 bs, []) := roundsW_calm p2 3
 clear b1 b2 b3
 generalize rounds 3 bs = cs at r3 c3 a3 f3 m3 e4
 have hlc : cs.length = ns.length := by have := congrArg List.length m3; simp at this; omega
 have hjl := (List.getElem?_eq_some_iff.1 hj).1
 have hjc : j < cs.length := by omega
 refine ⟨cs, e4, c3, a3, hlc, cs[j], List.getElem?_eq_getElem hjc, ?_, ?_⟩
 ·have := congrArg (fun l : List Int => l[j]?) (m3.trans p5)
  simp only [List.getElem?_map, List.getElem?_eq_getElem hjc, hj, Option.map_some] at this
  exact Option.some.inj this
 ·obtain ⟨z, z1, z2⟩ := get_round c3 a3 f3 hk (by rw [m3]; exact ho) r3 (List.getElem?_eq_getElem hjc)
  obtain ⟨q1, q2⟩ := noteL_last cs[j].f3 (noteT k ((bestOpt k (allI (bs, []))).getD z48) (bestOpt k (allI (bs, []))).isSome)
  exact ⟨z, z1, by rw [z2]; exact q2, by rw [z2]; exact q1⟩
section
theorem s0 (a b : Value) (l : List Value) : (a :: l).set 0 b = b :: l := rfl
theorem sS (a b : Value) (l : List Value) (i : Nat) : (a :: l).set (i + 1) b = a :: l.set i b := rfl
theorem get3 : (∀ (l : List Oper) (i : Nat) (h : i < l.toArray.size), l.toArray[i] = l[i]'(by simpa using h)) ∧ (∀ (a : Oper) (l : List Oper) (h : 0 < (a :: l).length), (a :: l)[0] = a) ∧ (∀ (a : Oper) (l : List Oper) (i : Nat) (h : i + 1 < (a :: l).length), (a :: l)[i + 1] = l[i]'(by simpa using h)) := by
 refine ⟨fun l i h => ?_, fun a l h => ?_, fun a l i h => ?_⟩ <;> simp
section
variable {P : Program} {ops : Array Oper} {Q : Exit → Act → World → Prop} {w0 : World}
theorem rT {i fuel : Nat} {oi : Oper} {v : Value} {listed : Array Bool} {a : Act} {w : World} [hS : Bel w0 w] (hi : ops[i]? = some oi) (hk : (Region.noSelect ops && (Region.free .any ops listed i && ((Region.ready .any ops listed).contains i && Region.wanted oi (yielded ops a.tmps)))) = true)
 (hv : ∀ w', BelL w0 w' → (execOp a.eval oi).run P w' = .ok (.value v) w') (h : LexR P ops (fun w_ => BelL w0 w_) Q fuel (listed.setIfInBounds i true) (a.put oi.dst v) w) : LexR P ops (fun w_ => BelL w0 w_) Q (fuel + 1) listed a w := by
 simp only [Bool.and_eq_true] at hk
 exact lexR_take hi hk.1 hk.2.1 hk.2.2.1 hk.2.2.2 belL hv h
theorem rO {i fuel : Nat} {o : Oper} {listed : Array Bool} {a : Act} {w : World} (ho : ops[i]? = some o) (hk : (Region.ready .any ops listed == [i] && Region.wanted o (yielded ops a.tmps)) = true)
 (h : ∀ K : Act → World → Prop, Shut (∀ a' w', BelL w0 w' → LexR P ops (fun w_ => BelL w0 w_) Q fuel (listed.setIfInBounds i true) a' w' → K a' w') → o.wp P a w K (NoPanic Q)) : LexR P ops (fun w_ => BelL w0 w_) Q (fuel + 1) listed a w := by
 simp only [Bool.and_eq_true, beq_iff_eq] at hk
 exact lexR_one hk.1 ho hk.2 h
theorem hT {o : Oper} {rest : List Oper} {k : Nat} {listed : Array Bool} {a : Act} {w : World} {v : Value} (hw : Region.wanted o (yielded ops a.tmps) = true) (hv : ∀ w', BelL w0 w' → (execOp a.eval o).run P w' = .ok (.value v) w') (h : LexW P ops (fun w_ => BelL w0 w_) Q rest (k + 1) (listed.setIfInBounds k true) (a.put o.dst v) w) : LexW P ops (fun w_ => BelL w0 w_) Q (o :: rest) k listed a w := lexH_take hw hv h
theorem rU {i fuel N : Nat} {oi : Oper} {v : Value} {listed : Array Bool} {l : List Value} {ds : List Deferred} {w : World} [hS : Bel w0 w] (hi : ops[i]? = some oi) (hd : oi.dst = some N) (hk : (Region.noSelect ops && (Region.free .any ops listed i && ((Region.ready .any ops listed).contains i && Region.wanted oi (yielded ops l.toArray)))) = true)
 (hv : ∀ w', BelL w0 w' → (execOp (Act.eval ⟨l.toArray, ds⟩) oi).run P w' = .ok (.value v) w') (h : LexR P ops (fun w_ => BelL w0 w_) Q fuel (listed.setIfInBounds i true) ⟨(l.set N v).toArray, ds⟩ w) : LexR P ops (fun w_ => BelL w0 w_) Q (fuel + 1) listed ⟨l.toArray, ds⟩ w := by
 refine rT hi hk hv ?_
 rw [hd]
 simpa [Act.put] using h
theorem hU {o : Oper} {rest : List Oper} {k N : Nat} {listed : Array Bool} {l : List Value} {ds : List Deferred} {w : World} {v : Value} (hd : o.dst = some N) (hw : Region.wanted o (yielded ops l.toArray) = true) (hv : ∀ w', BelL w0 w' → (execOp (Act.eval ⟨l.toArray, ds⟩) o).run P w' = .ok (.value v) w') (h : LexW P ops (fun w_ => BelL w0 w_) Q rest (k + 1) (listed.setIfInBounds k true) ⟨(l.set N v).toArray, ds⟩ w) : LexW P ops (fun w_ => BelL w0 w_) Q (o :: rest) k listed ⟨l.toArray, ds⟩ w := by
 refine lexH_take hw hv ?_
 rw [hd]
 simpa [Act.put] using h
theorem hS {o : Oper} {rest : List Oper} {k N : Nat} {listed : Array Bool} {l : List Value} {ds : List Deferred} {w : World} (hd : o.dst = some N) (hw : Region.wanted o (yielded ops l.toArray) = false) (h : LexW P ops (fun w_ => BelL w0 w_) Q rest (k + 1) (listed.setIfInBounds k true) ⟨(l.set N undef).toArray, ds⟩ w) : LexW P ops (fun w_ => BelL w0 w_) Q (o :: rest) k listed ⟨l.toArray, ds⟩ w := by
 refine lexH_skip hw ?_
 rw [hd]
 simpa [Act.put] using h
end
end
section
attribute [local go_sem] cell_tc2
attribute [local go_sem high] eqA46 eqA98 eqA77 eqA48
def itemsN (ns : List S40) : List S48 := ns.flatMap (fun x => x.f2)
def itemsP (ps : List S126) : List S48 := (ps.filter fun m => m.f0 == 1).map fun m => m.f5
theorem itemsN_snoc {ns : List S40} {i : Nat} (h : i < ns.length) : itemsN (ns.take (i + 1)) = itemsN (ns.take i) ++ ns[i].f2 := by
 unfold itemsN
 rw [List.take_succ_eq_append_getElem h, List.flatMap_append]
 simp
theorem itemsN_len (ns : List S40) (i : Nat) : (itemsN (ns.take i)).length ≤ (itemsN ns).length := by
 conv => rhs; rw [← List.take_append_drop i ns]
 unfold itemsN
 rw [List.flatMap_append, List.length_append]
 omega
theorem itemsP_yes {ps : List S126} {i : Nat} (h : i < ps.length) (k : (ps[i].f0 == 1) = true) : itemsP (ps.take (i + 1)) = itemsP (ps.take i) ++ [ps[i].f5] := by
 unfold itemsP
 rw [List.take_succ_eq_append_getElem h, List.filter_append, List.map_append]
 simp [k]
theorem itemsP_no {ps : List S126} {i : Nat} (h : i < ps.length) (k : (ps[i].f0 == 1) = false) : itemsP (ps.take (i + 1)) = itemsP (ps.take i) := by
 unfold itemsP
 rw [List.take_succ_eq_append_getElem h, List.filter_append, List.map_append]
 simp [k]
theorem itemsP_len (ps : List S126) (i : Nat) : (itemsP (ps.take i)).length ≤ i := by
 unfold itemsP
 rw [List.length_map]
 exact Nat.le_trans (List.length_filter_le _ _) (by rw [List.length_take]; exact Nat.min_le_left _ _)
theorem bestOpt_snoc {k : Int} {l : List S48} {i : Nat} (h : i < l.length) : bestOpt k (l.take (i + 1)) = bestStep k (bestOpt k (l.take i)) l[i] := by
 unfold bestOpt
 rw [List.take_succ_eq_append_getElem h, List.foldl_append]
 rfl
theorem keysL_snoc {l : List S48} {i : Nat} (h : i < l.length) : keysL (l.take (i + 1)) = keyStep (keysL (l.take i)) l[i] := by
 unfold keysL
 rw [List.take_succ_eq_append_getElem h, List.foldl_append]
 rfl
theorem keysL_len (l : List S48) : (keysL l).length ≤ l.length := by
 have h : ∀ (l : List S48) (ks : List Int), (l.foldl keyStep ks).length ≤ ks.length + l.length := by
  intro l
  induction l with
  | nil => intro ks; simp
  | cons x r ih =>
    intro ks
    have := ih (keyStep ks x)
    have h2 : (keyStep ks x).length ≤ ks.length + 1 := by unfold keyStep; split <;> simp
    simp only [List.foldl_cons, List.length_cons]
    omega
 have := h l []
 simpa [keysL] using this
theorem refBestS_ {x y : S48} {w : World} :
 Calls Tryz.prog 30 #[.agg #[.int .i64 x.f0, .int .i64 x.f1.f0, .int .i64 x.f1.f1, .int .i64 x.f2, .bool x.f3], .agg #[.int .i64 y.f0, .int .i64 y.f1.f0, .int .i64 y.f1.f1, .int .i64 y.f2, .bool y.f3]] w fun e w' => e = .returned (.tuple #[itemV (bestI x y), .int .i64 (bestE x y)]) ∧ BelL w w' := refBest_
set_option maxRecDepth 100000 in
set_option maxHeartbeats 8000000 in
theorem best26_ {key : Int} {A B C : Option Addr} {n c m d k f : Nat} {ns : List S40} {ps : List S126} {w : World} [h : Sr k40 w A n c ns] [q : Sr k126 w C k f ps] (hN : (itemsN ns).length + k ≤ 500000) :
 Calls Tryz.prog 26 #[.agg #[.slice A n c, .slice B m d, .slice C k f], .int .i64 key] w fun e w' => e = .returned (.tuple #[itemV ((bestOpt key (allI (ns, ps))).getD z48), .bool (bestOpt key (allI (ns, ps))).isSome, .int .i64 (keysL (allI (ns, ps))).length]) ∧ BelL w w' := by
 obtain rfl := h.len
 obtain rfl := q.len
 have s1 := sr_l h
 have s2 := sr_l q
 have hlen : ns.length ≤ 9223372036854775807 := h.C.2.1
 clear h q
 have HL := Aside0.mk (show itemsN ns ++ itemsP ps = allI (ns, ps) from rfl)
 generalize hL : allI (ns, ps) = L at HL
 clear hL
 go_enter Tryz.func26, Tryz.ntmps26
 go_upto_region 2 with (first | (with_reducible refine box_tc rfl (N := 2) rfl (cs := #[.slice A ns.length c, .slice B m d, .slice C ps.length f]) (t := 61) ?hr ?_; (case hr => go_simp <;> rfl); intro g2 wg2 _ _ _) | (with_reducible refine box_tc rfl (N := 4) rfl (cs := #[.int .i64 0, .int .i64 0, .int .i64 0, .int .i64 0, .bool false]) (t := 48) ?hr ?_; (case hr => go_simp <;> rfl); intro g4 wg4 _ _ _))
 refine wp_letter fun wl hl => ?_
 have B2 : BlkL wl g2 #[.slice A ns.length c, .slice B m d, .slice C ps.length f] 61 := blkL
 have B4 : BlkL wl g4 #[.int .i64 0, .int .i64 0, .int .i64 0, .int .i64 0, .bool false] 48 := blkL
 have hwl : BelL w wl := belL
 clear hl
 go_wp2
 go_loopg [7, 8] ns.length (fun kq v7 v8 w' => ∃ (i : Nat) (A3 : Option Addr) (c3 : Nat), v8 = .int .i64 i ∧ v7 = .slice A3 (itemsN (ns.take i)).length c3 ∧ i ≤ ns.length ∧ kq = ns.length - i ∧ FrL k48 48 w' wl.heap.size (Under w'.heap.size) A3 (itemsN (ns.take i)).length c3 (itemsN (ns.take i)) ∧ BelL wl w')
 case atStart => exact ⟨0, none, 0, rfl, rfl, Nat.zero_le _, rfl, frl_nil, belL⟩
 case round =>
  obtain ⟨i, A3, c3, rfl, rfl, hi, rfl, hF, hbr⟩ := hrel
  by_cases hlt : i < ns.length
  ·obtain ⟨ad, A2, c2, B3, d3, A4, c4, A5, c5, rfl, hx0, hx1, hx2, hx3, hx4, hx5, hg2, hg3, hg4, hg5⟩ := el_T40 (W := wl) (A := A) (n := ns.length) (c := c) (l := ns) i hlt
   have hb1 := itemsN_len ns (i + 1)
   have HS := Aside0.mk (itemsN_snoc hlt)
   have HSL : Aside0 ((itemsN (ns.take (i + 1))).length = (itemsN (ns.take i)).length + ns[i].f2.length) := ⟨by rw [HS.out, List.length_append]⟩
   have hb2 : (itemsN (ns.take i)).length + ns[i].f2.length ≤ 500000 := by have := HSL.out; omega
   clear hb1
   go_wp2_with (first | ((with_reducible refine gate_dst (N := 30) rfl ?_); refine app_tc (k := k48) (t := 37) (A := A3) (n := (itemsN (ns.take i)).length) (c := c3) (B := A4) (m := ns[i].f2.length) (d := c4) (by rfl) (by rfl) Tryz.underlying37 (by rfl) (by rfl) (by omega) ?_; intro A6 c6 w6 _ _ _))
   go_roundg (ns.length - (i + 1))
   case measure => omega
   case rel => exact ⟨i + 1, _, _, by go_num, by rw [HSL.out], by omega, rfl, by rw [HSL.out, HS.out]; exact frl, belL⟩
  ·obtain rfl : i = ns.length := by omega
   rw [List.take_length] at hF
   rw [List.take_length]
   generalize hN0 : itemsN ns = N0 at hF hN HL
   clear hN0
   go_wp2
   go_loopg [7, 9] ps.length (fun kq v7 v9 w' => ∃ (i : Nat) (A3 : Option Addr) (c3 : Nat), v9 = .int .i64 i ∧ v7 = .slice A3 (N0 ++ itemsP (ps.take i)).length c3 ∧ i ≤ ps.length ∧ kq = ps.length - i ∧ FrL k48 48 w' wl.heap.size (Under w'.heap.size) A3 (N0 ++ itemsP (ps.take i)).length c3 (N0 ++ itemsP (ps.take i)) ∧ BelL wl w')
   case atStart => exact ⟨0, A3, c3, rfl, by rw [show N0 ++ itemsP (ps.take 0) = N0 by simp [itemsP]], Nat.zero_le _, rfl, by rw [show N0 ++ itemsP (ps.take 0) = N0 by simp [itemsP]]; exact frl, belL⟩
   case round =>
    clear hF
    obtain ⟨i, A3, c3, rfl, rfl, hi8, rfl, hF8, hbr8⟩ := hrel
    by_cases hlt8 : i < ps.length
    ·obtain ⟨ad, A9, c9, rfl, hy0, hy1, hy2, hy3, hy4, hy5, hy6, hy7, hy8, hy9, hy10, hs9⟩ := el_T126 (W := wl) (A := C) (n := ps.length) (c := f) (l := ps) i hlt8
     have hm1 := itemsP_len ps i
     have hm3 : (N0 ++ itemsP (ps.take i)).length = N0.length + (itemsP (ps.take i)).length := List.length_append
     cases hk : (ps[i].f0 == 1)
     ·have HS8 := Aside0.mk (itemsP_no hlt8 hk)
      generalize hN1 : N0 ++ itemsP (ps.take i) = N1 at hF8 hm3
      have HN1 := Aside0.mk hN1
      clear hm3 hm1 hN1
      go_wp2
      go_roundg (ps.length - (i + 1))
      case measure => omega
      case rel => exact ⟨i + 1, _, _, by go_num, by rw [HS8.out, HN1.out], by omega, rfl, by rw [HS8.out, HN1.out]; exact frl, belL⟩
     ·have HS8 := Aside0.mk (show N0 ++ itemsP (ps.take (i + 1)) = N0 ++ itemsP (ps.take i) ++ [ps[i].f5] by rw [itemsP_yes hlt8 hk, List.append_assoc])
      have hm4 : (N0 ++ itemsP (ps.take i)).length ≤ 500000 := by omega
      generalize N0 ++ itemsP (ps.take i) = N1 at hF8 HS8 hm4
      have HSL8 : Aside0 ((N0 ++ itemsP (ps.take (i + 1))).length = N1.length + 1) := ⟨by rw [HS8.out, List.length_append]; rfl⟩
      clear hm3 hm1
      go_wp2_with (first | (with_reducible refine lit_tc rfl (N := 52) rfl (cs := #[.int .i64 ps[i].f5.f0, .int .i64 ps[i].f5.f1.f0, .int .i64 ps[i].f5.f1.f1, .int .i64 ps[i].f5.f2, .bool ps[i].f5.f3]) (t := 48) (m := 1) ?hr ?_; (case hr => go_simp <;> rfl); intro g5 wg5 _ _ _) | ((with_reducible refine gate_dst (N := 53) rfl ?_); refine app_tc (k := k48) (t := 37) (A := A3) (n := N1.length) (c := c3) (B := some ⟨g5, 0, none⟩) (m := 1) (d := 1) (by rfl) (by rfl) Tryz.underlying37 (by rfl) (by rfl) (by omega) ?_; intro A6 c6 w6 _ _ _))
      go_roundg (ps.length - (i + 1))
      case measure => omega
      case rel => exact ⟨i + 1, _, _, by go_num, by rw [HSL8.out], by omega, rfl, by rw [HSL8.out, HS8.out]; exact frl, belL⟩
    ·obtain rfl : i = ps.length := by omega
     have hm1 := itemsP_len ps ps.length
     rw [List.take_length] at hF8 hm1
     rw [List.take_length]
     have hm4 : (N0 ++ itemsP ps).length ≤ 500000 := by rw [List.length_append]; omega
     rw [HL.out] at hF8 hm4 ⊢
     clear HL hm1 hN
     refine wp_letter fun w3 h3 => ?_
     have S7 : SrL k48 w3 A3 L.length c3 L := sr_l inferInstance
     have B2b : BlkL w3 g2 #[.slice A ns.length c, .slice B m d, .slice C ps.length f] 61 := blkL
     have B4b : BlkL w3 g4 #[.int .i64 0, .int .i64 0, .int .i64 0, .int .i64 0, .bool false] 48 := blkL
     have hw3 : BelL w w3 := belL
     clear hF8
     go_upto_region 13 with (first | (with_reducible refine box_tc rfl (N := 11) rfl (cs := #[.int .i64 0, .int .i64 0, .int .i64 0, .int .i64 0, .bool false]) (t := 48) ?hr ?_; (case hr => go_simp <;> rfl); intro g11 wg11 _ _ _))
     refine wp_letter fun w4 h4 => ?_
     have B11 : BlkL w4 g11 #[.int .i64 0, .int .i64 0, .int .i64 0, .int .i64 0, .bool false] 48 := blkL
     have B2c : BlkL w4 g2 #[.slice A ns.length c, .slice B m d, .slice C ps.length f] 61 := blkL
     have B4c : BlkL w4 g4 #[.int .i64 0, .int .i64 0, .int .i64 0, .int .i64 0, .bool false] 48 := blkL
     have hw34 : BelL w3 w4 := belL
     go_wp2
     go_loopg [10, 12, 13, 14, 15] L.length (fun kq v10 v12 v13 v14 v15 w' => ∃ (i : Nat) (A8 : Option Addr) (c8 : Nat), v13 = .int .i64 i ∧ v10 = .slice A8 (keysL (L.take i)).length c8 ∧ v12 = .bool (bestOpt key (L.take i)).isSome ∧ i ≤ L.length ∧ kq = L.length - i ∧ BlkL w' g11 #[.int .i64 ((bestOpt key (L.take i)).getD z48).f0, .int .i64 ((bestOpt key (L.take i)).getD z48).f1.f0, .int .i64 ((bestOpt key (L.take i)).getD z48).f1.f1, .int .i64 ((bestOpt key (L.take i)).getD z48).f2, .bool ((bestOpt key (L.take i)).getD z48).f3] 48 ∧ FrL kI 3 w' w4.heap.size (Under w'.heap.size) A8 (keysL (L.take i)).length c8 (keysL (L.take i)) ∧ LeB w4.heap.size w'.heap.size ∧ BelL w3 w')
     case atStart => exact ⟨0, none, 0, rfl, rfl, rfl, Nat.zero_le _, rfl, blkL, frl_nil, ⟨LeB.out⟩, belL⟩
     case round =>
      obtain ⟨i, A8, c8, rfl, rfl, rfl, hi9, rfl, hB, hF9, hle, hbr9⟩ := hrel
      by_cases hlt9 : i < L.length
      ·obtain ⟨ad, rfl, hz0, hz1, hz2, hz3, hz4⟩ := el_T48 (W := w3) (A := A3) (n := L.length) (c := c3) (l := L) i hlt9
       have HB := bestOpt_snoc (k := key) hlt9
       have HK := keysL_snoc hlt9
       have hk8 : (keysL (L.take i)).length ≤ 500000 := Nat.le_trans (keysL_len _) (by rw [List.length_take]; omega)
       generalize hacc : bestOpt key (L.take i) = acc at hB HB ⊢
       generalize hK0 : keysL (L.take i) = K0 at hF9 HK hk8 ⊢
       clear hacc hK0
       cases hm : memB K0 L[i].f0
       ·have QK := Aside0.mk (show keysL (L.take (i + 1)) = K0 ++ [L[i].f0] by rw [HK]; unfold keyStep; rw [hm]; rfl)
        have QL : Aside0 ((keysL (L.take (i + 1))).length = K0.length + 1) := ⟨by rw [QK.out, List.length_append]; rfl⟩
        have HM := Aside0.mk hm
        clear hm HK
        cases hk : (L[i].f0 != key)
        ·have hk2 : L[i].f0 = key := by simpa using hk
         cases acc with
         | none =>
           have QB := Aside0.mk (show bestOpt key (L.take (i + 1)) = some L[i] by rw [HB]; unfold bestStep; rw [if_pos hk2])
           have hB0 : BlkL wr g11 #[.int .i64 0, .int .i64 0, .int .i64 0, .int .i64 0, .bool false] 48 := hB
           clear HB hB hk2
           go_wp2_with (first | (go_at_call 80; (with_reducible refine cM (in_ (l := K0) (x := L[i].f0)) ?_); rw [HM.out]; rintro e wi ⟨rfl, hbi⟩) | (with_reducible refine lit_tc rfl (N := 75) rfl (cs := #[.int .i64 L[i].f0]) (t := 3) (m := 1) ?hr ?_; (case hr => go_simp <;> rfl); intro g6 wg6 _ _ _) | ((with_reducible refine gate_dst (N := 76) rfl ?_); refine app_tc (k := kI) (t := 23) (A := A8) (n := K0.length) (c := c8) (B := some ⟨g6, 0, none⟩) (m := 1) (d := 1) (by rfl) (by rfl) Tryz.underlying23 (by rfl) (by rfl) (by omega) ?_; intro A7 c7 w7 _ _ _))
           go_roundg (L.length - (i + 1))
           case measure => omega
           case rel => exact ⟨i + 1, _, _, by go_num, by rw [QL.out], by first | (rw [QB.out]; done) | (rw [QB.out]; rfl), by omega, rfl, by rw [QB.out]; exact blkL, by rw [QL.out, QK.out]; exact frl, ⟨LeB.out⟩, belL⟩
         | some x =>
           have QB := Aside0.mk (show bestOpt key (L.take (i + 1)) = some (bestI x L[i]) by rw [HB]; unfold bestStep; rw [if_pos hk2])
           have hB0 : BlkL wr g11 #[.int .i64 x.f0, .int .i64 x.f1.f0, .int .i64 x.f1.f1, .int .i64 x.f2, .bool x.f3] 48 := hB
           clear HB hB hk2
           go_upto_region 21 with (first | (go_at_call 80; (with_reducible refine cM (in_ (l := K0) (x := L[i].f0)) ?_); rw [HM.out]; rintro e wi ⟨rfl, hbi⟩) | (with_reducible refine lit_tc rfl (N := 75) rfl (cs := #[.int .i64 L[i].f0]) (t := 3) (m := 1) ?hr ?_; (case hr => go_simp <;> rfl); intro g6 wg6 _ _ _) | ((with_reducible refine gate_dst (N := 76) rfl ?_); refine app_tc (k := kI) (t := 23) (A := A8) (n := K0.length) (c := c8) (B := some ⟨g6, 0, none⟩) (m := 1) (d := 1) (by rfl) (by rfl) Tryz.underlying23 (by rfl) (by rfl) (by omega) ?_; intro A7 c7 w7 _ _ _))
           refine wp_letter fun w6 hb6 => ?_
           have B11d : BlkL w6 g11 #[.int .i64 x.f0, .int .i64 x.f1.f0, .int .i64 x.f1.f1, .int .i64 x.f2, .bool x.f3] 48 := blkL
           have h36 : BelL w3 w6 := belL
           have hF6 : FrL kI 3 w6 w4.heap.size (Under w6.heap.size) A7 (K0.length + 1) c7 (K0 ++ [L[i].f0]) := frl
           have hle6 : LeB w4.heap.size w6.heap.size := ⟨LeB.out⟩
           clear hb6
           refine wp_region_any_lex (S := fun w_ => BelL w6 w_) 12 (by kernel_rfl) (by kernel_rfl) belL ?_
           (refine rT (i := 0) (v := ?_) rfl (by kernel_rfl) ?_ ?_; rotate_left; focus (intro wq hSw; first | (go_simp; done) | (go_simp; with_reducible rfl)); try simp only [Act.put, get3, put3])
           (refine rT (i := 1) (v := ?_) rfl (by kernel_rfl) ?_ ?_; rotate_left; focus (intro wq hSw; first | (go_simp; done) | (go_simp; with_reducible rfl)); try simp only [Act.put, get3, put3])
           (refine rT (i := 2) (v := ?_) rfl (by kernel_rfl) ?_ ?_; rotate_left; focus (intro wq hSw; first | (go_simp; done) | (go_simp; with_reducible rfl)); try simp only [Act.put, get3, put3])
           (refine rT (i := 3) (v := ?_) rfl (by kernel_rfl) ?_ ?_; rotate_left; focus (intro wq hSw; first | (go_simp; done) | (go_simp; with_reducible rfl)); try simp only [Act.put, get3, put3])
           (refine rT (i := 4) (v := ?_) rfl (by kernel_rfl) ?_ ?_; rotate_left; focus (intro wq hSw; first | (go_simp; done) | (go_simp; with_reducible rfl)); try simp only [Act.put, get3, put3])
           refine lexR_two (i := 5) (j := 9) (by kernel_rfl) rfl rfl (by kernel_rfl) (by kernel_rfl) (fun K hK => ?o1) (fun K hK => ?p1)
           case' o1 =>
            (go_simp; (go_at_call 30; (with_reducible refine cM (refBestS_ (x := x) (y := L[i])) ?_); rintro e wbe ⟨rfl, hbe⟩; simp only [itemV]); refine hK.out _ _ belL ?_; clear hK K; (try simp only [Act.put, get3, put3]))
            (refine rT (i := 6) (v := ?_) rfl (by kernel_rfl) ?_ ?_; rotate_left; focus (intro wq hSw; first | (go_simp; done) | (go_simp; with_reducible rfl)); try simp only [Act.put, get3, put3])
            (refine rT (i := 7) (v := ?_) rfl (by kernel_rfl) ?_ ?_; rotate_left; focus (intro wq hSw; first | (go_simp; done) | (go_simp; with_reducible rfl)); try simp only [Act.put, get3, put3])
            (refine rT (i := 8) (v := ?_) rfl (by kernel_rfl) ?_ ?_; rotate_left; focus (intro wq hSw; first | (go_simp; done) | (go_simp; with_reducible rfl)); try simp only [Act.put, get3, put3])
            (refine rO (i := 9) rfl (by kernel_rfl) (fun K hK => ?_); refine box_wp (N := _) rfl (cs := #[.int .i64 0, .int .i64 0, .int .i64 0, .int .i64 0, .bool false]) (t := 48) ?_ ?_; (focus (go_simp <;> rfl)); intro g14 wg14 _ _ _; refine hK.out _ _ belL ?_; clear hK K; (try simp only [Act.put, get3, put3]))
            (refine rO (i := 10) rfl (by kernel_rfl) (fun K hK => ?_); go_simp; refine hK.out _ _ belL ?_; clear hK K; (try simp only [Act.put, get3, put3]))
            (refine rT (i := 11) (v := ?_) rfl (by kernel_rfl) ?_ ?_; rotate_left; focus (intro wq hSw; first | (go_simp; done) | (go_simp; with_reducible rfl)); try simp only [Act.put, get3, put3])
            refine lexR_done (by kernel_rfl) ?_
           case' p1 =>
            (refine box_wp (N := _) rfl (cs := #[.int .i64 0, .int .i64 0, .int .i64 0, .int .i64 0, .bool false]) (t := 48) ?_ ?_; (focus (go_simp <;> rfl)); intro g14 wg14 _ _ _; refine hK.out _ _ belL ?_; clear hK K; (try simp only [Act.put, get3, put3]))
            (refine rO (i := 5) rfl (by kernel_rfl) (fun K hK => ?_); go_simp; (go_at_call 30; (with_reducible refine cM (refBestS_ (x := x) (y := L[i])) ?_); rintro e wbe ⟨rfl, hbe⟩; simp only [itemV]); refine hK.out _ _ belL ?_; clear hK K; (try simp only [Act.put, get3, put3]))
            (refine rT (i := 6) (v := ?_) rfl (by kernel_rfl) ?_ ?_; rotate_left; focus (intro wq hSw; first | (go_simp; done) | (go_simp; with_reducible rfl)); try simp only [Act.put, get3, put3])
            (refine rT (i := 7) (v := ?_) rfl (by kernel_rfl) ?_ ?_; rotate_left; focus (intro wq hSw; first | (go_simp; done) | (go_simp; with_reducible rfl)); try simp only [Act.put, get3, put3])
            (refine rT (i := 8) (v := ?_) rfl (by kernel_rfl) ?_ ?_; rotate_left; focus (intro wq hSw; first | (go_simp; done) | (go_simp; with_reducible rfl)); try simp only [Act.put, get3, put3])
            (refine rO (i := 10) rfl (by kernel_rfl) (fun K hK => ?_); go_simp; refine hK.out _ _ belL ?_; clear hK K; (try simp only [Act.put, get3, put3]))
            (refine rT (i := 11) (v := ?_) rfl (by kernel_rfl) ?_ ?_; rotate_left; focus (intro wq hSw; first | (go_simp; done) | (go_simp; with_reducible rfl)); try simp only [Act.put, get3, put3])
            refine lexR_done (by kernel_rfl) ?_
           all_goals
            go_upto_region 22 with (fail)
            refine wp_letter fun w7 hb7 => ?_
            have B14 : BlkL w7 g14 #[.int .i64 (bestI x L[i]).f0, .int .i64 (bestI x L[i]).f1.f0, .int .i64 (bestI x L[i]).f1.f1, .int .i64 (bestI x L[i]).f2, .bool (bestI x L[i]).f3] 48 := blkL
            have B11e : BlkL w7 g11 #[.int .i64 x.f0, .int .i64 x.f1.f0, .int .i64 x.f1.f1, .int .i64 x.f2, .bool x.f3] 48 := blkL
            have h37 : BelL w3 w7 := belL
            have hF7 : FrL kI 3 w7 w4.heap.size (Under w7.heap.size) A7 (K0.length + 1) c7 (K0 ++ [L[i].f0]) := frl
            have hle7 : LeB w4.heap.size w7.heap.size := ⟨LeB.out⟩
            clear hb7
            go_wp2
            go_roundg (L.length - (i + 1))
            case measure => omega
            case rel => exact ⟨i + 1, _, _, by go_num, by rw [QL.out], by first | (rw [QB.out]; done) | (rw [QB.out]; rfl), by omega, rfl, by rw [QB.out]; exact blkL, by rw [QL.out, QK.out]; exact frl, ⟨LeB.out⟩, belL⟩
        ·have hk2 : L[i].f0 ≠ key := by simpa using hk
         have QB := Aside0.mk (show bestOpt key (L.take (i + 1)) = acc by rw [HB]; unfold bestStep; rw [if_neg hk2])
         clear HB hk2
         go_wp2_with (first | (go_at_call 80; (with_reducible refine cM (in_ (l := K0) (x := L[i].f0)) ?_); rw [HM.out]; rintro e wi ⟨rfl, hbi⟩) | (with_reducible refine lit_tc rfl (N := 75) rfl (cs := #[.int .i64 L[i].f0]) (t := 3) (m := 1) ?hr ?_; (case hr => go_simp <;> rfl); intro g6 wg6 _ _ _) | ((with_reducible refine gate_dst (N := 76) rfl ?_); refine app_tc (k := kI) (t := 23) (A := A8) (n := K0.length) (c := c8) (B := some ⟨g6, 0, none⟩) (m := 1) (d := 1) (by rfl) (by rfl) Tryz.underlying23 (by rfl) (by rfl) (by omega) ?_; intro A7 c7 w7 _ _ _))
         go_roundg (L.length - (i + 1))
         case measure => omega
         case rel => exact ⟨i + 1, _, _, by go_num, by rw [QL.out], by first | (rw [QB.out]; done) | (rw [QB.out]; rfl), by omega, rfl, by rw [QB.out]; exact blkL, by rw [QL.out, QK.out]; exact frl, ⟨LeB.out⟩, belL⟩
       ·have QK := Aside0.mk (show keysL (L.take (i + 1)) = K0 by rw [HK]; unfold keyStep; rw [hm]; rfl)
        have QL : Aside0 ((keysL (L.take (i + 1))).length = K0.length) := ⟨by rw [QK.out]⟩
        have HM := Aside0.mk hm
        clear hm HK
        cases hk : (L[i].f0 != key)
        ·have hk2 : L[i].f0 = key := by simpa using hk
         cases acc with
         | none =>
           have QB := Aside0.mk (show bestOpt key (L.take (i + 1)) = some L[i] by rw [HB]; unfold bestStep; rw [if_pos hk2])
           have hB0 : BlkL wr g11 #[.int .i64 0, .int .i64 0, .int .i64 0, .int .i64 0, .bool false] 48 := hB
           clear HB hB hk2
           go_wp2_with (first | (go_at_call 80; (with_reducible refine cM (in_ (l := K0) (x := L[i].f0)) ?_); rw [HM.out]; rintro e wi ⟨rfl, hbi⟩))
           go_roundg (L.length - (i + 1))
           case measure => omega
           case rel => exact ⟨i + 1, _, _, by go_num, by rw [QL.out], by first | (rw [QB.out]; done) | (rw [QB.out]; rfl), by omega, rfl, by rw [QB.out]; exact blkL, by rw [QL.out, QK.out]; exact frl, ⟨LeB.out⟩, belL⟩
         | some x =>
           have QB := Aside0.mk (show bestOpt key (L.take (i + 1)) = some (bestI x L[i]) by rw [HB]; unfold bestStep; rw [if_pos hk2])
           have hB0 : BlkL wr g11 #[.int .i64 x.f0, .int .i64 x.f1.f0, .int .i64 x.f1.f1, .int .i64 x.f2, .bool x.f3] 48 := hB
           clear HB hB hk2
           go_upto_region 21 with (first | (go_at_call 80; (with_reducible refine cM (in_ (l := K0) (x := L[i].f0)) ?_); rw [HM.out]; rintro e wi ⟨rfl, hbi⟩))
           refine wp_letter fun w6 hb6 => ?_
           have B11d : BlkL w6 g11 #[.int .i64 x.f0, .int .i64 x.f1.f0, .int .i64 x.f1.f1, .int .i64 x.f2, .bool x.f3] 48 := blkL
           have h36 : BelL w3 w6 := belL
           have hF6 : FrL kI 3 w6 w4.heap.size (Under w6.heap.size) A8 K0.length c8 K0 := frl
           have hle6 : LeB w4.heap.size w6.heap.size := ⟨LeB.out⟩
           clear hb6
           refine wp_region_any_lex (S := fun w_ => BelL w6 w_) 12 (by kernel_rfl) (by kernel_rfl) belL ?_
           (refine rT (i := 0) (v := ?_) rfl (by kernel_rfl) ?_ ?_; rotate_left; focus (intro wq hSw; first | (go_simp; done) | (go_simp; with_reducible rfl)); try simp only [Act.put, get3, put3])
           (refine rT (i := 1) (v := ?_) rfl (by kernel_rfl) ?_ ?_; rotate_left; focus (intro wq hSw; first | (go_simp; done) | (go_simp; with_reducible rfl)); try simp only [Act.put, get3, put3])
           (refine rT (i := 2) (v := ?_) rfl (by kernel_rfl) ?_ ?_; rotate_left; focus (intro wq hSw; first | (go_simp; done) | (go_simp; with_reducible rfl)); try simp only [Act.put, get3, put3])
           (refine rT (i := 3) (v := ?_) rfl (by kernel_rfl) ?_ ?_; rotate_left; focus (intro wq hSw; first | (go_simp; done) | (go_simp; with_reducible rfl)); try simp only [Act.put, get3, put3])
           (refine rT (i := 4) (v := ?_) rfl (by kernel_rfl) ?_ ?_; rotate_left; focus (intro wq hSw; first | (go_simp; done) | (go_simp; with_reducible rfl)); try simp only [Act.put, get3, put3])
           refine lexR_two (i := 5) (j := 9) (by kernel_rfl) rfl rfl (by kernel_rfl) (by kernel_rfl) (fun K hK => ?o2) (fun K hK => ?p2)
           case' o2 =>
            (go_simp; (go_at_call 30; (with_reducible refine cM (refBestS_ (x := x) (y := L[i])) ?_); rintro e wbe ⟨rfl, hbe⟩; simp only [itemV]); refine hK.out _ _ belL ?_; clear hK K; (try simp only [Act.put, get3, put3]))
            (refine rT (i := 6) (v := ?_) rfl (by kernel_rfl) ?_ ?_; rotate_left; focus (intro wq hSw; first | (go_simp; done) | (go_simp; with_reducible rfl)); try simp only [Act.put, get3, put3])
            (refine rT (i := 7) (v := ?_) rfl (by kernel_rfl) ?_ ?_; rotate_left; focus (intro wq hSw; first | (go_simp; done) | (go_simp; with_reducible rfl)); try simp only [Act.put, get3, put3])
            (refine rT (i := 8) (v := ?_) rfl (by kernel_rfl) ?_ ?_; rotate_left; focus (intro wq hSw; first | (go_simp; done) | (go_simp; with_reducible rfl)); try simp only [Act.put, get3, put3])
            (refine rO (i := 9) rfl (by kernel_rfl) (fun K hK => ?_); refine box_wp (N := _) rfl (cs := #[.int .i64 0, .int .i64 0, .int .i64 0, .int .i64 0, .bool false]) (t := 48) ?_ ?_; (focus (go_simp <;> rfl)); intro g14 wg14 _ _ _; refine hK.out _ _ belL ?_; clear hK K; (try simp only [Act.put, get3, put3]))
            (refine rO (i := 10) rfl (by kernel_rfl) (fun K hK => ?_); go_simp; refine hK.out _ _ belL ?_; clear hK K; (try simp only [Act.put, get3, put3]))
            (refine rT (i := 11) (v := ?_) rfl (by kernel_rfl) ?_ ?_; rotate_left; focus (intro wq hSw; first | (go_simp; done) | (go_simp; with_reducible rfl)); try simp only [Act.put, get3, put3])
            refine lexR_done (by kernel_rfl) ?_
           case' p2 =>
            (refine box_wp (N := _) rfl (cs := #[.int .i64 0, .int .i64 0, .int .i64 0, .int .i64 0, .bool false]) (t := 48) ?_ ?_; (focus (go_simp <;> rfl)); intro g14 wg14 _ _ _; refine hK.out _ _ belL ?_; clear hK K; (try simp only [Act.put, get3, put3]))
            (refine rO (i := 5) rfl (by kernel_rfl) (fun K hK => ?_); go_simp; (go_at_call 30; (with_reducible refine cM (refBestS_ (x := x) (y := L[i])) ?_); rintro e wbe ⟨rfl, hbe⟩; simp only [itemV]); refine hK.out _ _ belL ?_; clear hK K; (try simp only [Act.put, get3, put3]))
            (refine rT (i := 6) (v := ?_) rfl (by kernel_rfl) ?_ ?_; rotate_left; focus (intro wq hSw; first | (go_simp; done) | (go_simp; with_reducible rfl)); try simp only [Act.put, get3, put3])
            (refine rT (i := 7) (v := ?_) rfl (by kernel_rfl) ?_ ?_; rotate_left; focus (intro wq hSw; first | (go_simp; done) | (go_simp; with_reducible rfl)); try simp only [Act.put, get3, put3])
            (refine rT (i := 8) (v := ?_) rfl (by kernel_rfl) ?_ ?_; rotate_left; focus (intro wq hSw; first | (go_simp; done) | (go_simp; with_reducible rfl)); try simp only [Act.put, get3, put3])
            (refine rO (i := 10) rfl (by kernel_rfl) (fun K hK => ?_); go_simp; refine hK.out _ _ belL ?_; clear hK K; (try simp only [Act.put, get3, put3]))
            (refine rT (i := 11) (v := ?_) rfl (by kernel_rfl) ?_ ?_; rotate_left; focus (intro wq hSw; first | (go_simp; done) | (go_simp; with_reducible rfl)); try simp only [Act.put, get3, put3])
            refine lexR_done (by kernel_rfl) ?_
           all_goals
            go_upto_region 22 with (fail)
            refine wp_letter fun w7 hb7 => ?_
            have B14 : BlkL w7 g14 #[.int .i64 (bestI x L[i]).f0, .int .i64 (bestI x L[i]).f1.f0, .int .i64 (bestI x L[i]).f1.f1, .int .i64 (bestI x L[i]).f2, .bool (bestI x L[i]).f3] 48 := blkL
            have B11e : BlkL w7 g11 #[.int .i64 x.f0, .int .i64 x.f1.f0, .int .i64 x.f1.f1, .int .i64 x.f2, .bool x.f3] 48 := blkL
            have h37 : BelL w3 w7 := belL
            have hF7 : FrL kI 3 w7 w4.heap.size (Under w7.heap.size) A8 K0.length c8 K0 := frl
            have hle7 : LeB w4.heap.size w7.heap.size := ⟨LeB.out⟩
            clear hb7
            go_wp2
            go_roundg (L.length - (i + 1))
            case measure => omega
            case rel => exact ⟨i + 1, _, _, by go_num, by rw [QL.out], by first | (rw [QB.out]; done) | (rw [QB.out]; rfl), by omega, rfl, by rw [QB.out]; exact blkL, by rw [QL.out, QK.out]; exact frl, ⟨LeB.out⟩, belL⟩
        ·have hk2 : L[i].f0 ≠ key := by simpa using hk
         have QB := Aside0.mk (show bestOpt key (L.take (i + 1)) = acc by rw [HB]; unfold bestStep; rw [if_neg hk2])
         clear HB hk2
         go_wp2_with (first | (go_at_call 80; (with_reducible refine cM (in_ (l := K0) (x := L[i].f0)) ?_); rw [HM.out]; rintro e wi ⟨rfl, hbi⟩))
         go_roundg (L.length - (i + 1))
         case measure => omega
         case rel => exact ⟨i + 1, _, _, by go_num, by rw [QL.out], by first | (rw [QB.out]; done) | (rw [QB.out]; rfl), by omega, rfl, by rw [QB.out]; exact blkL, by rw [QL.out, QK.out]; exact frl, ⟨LeB.out⟩, belL⟩
      ·obtain rfl : i = L.length := by omega
       rw [List.take_length] at hF9 hB
       rw [List.take_length]
       refine wp_letter fun w8 h8 => ?_
       have B11f : BlkL w8 g11 #[.int .i64 ((bestOpt key L).getD z48).f0, .int .i64 ((bestOpt key L).getD z48).f1.f0, .int .i64 ((bestOpt key L).getD z48).f1.f1, .int .i64 ((bestOpt key L).getD z48).f2, .bool ((bestOpt key L).getD z48).f3] 48 := blkL
       have B4f : BlkL w8 g4 #[.int .i64 0, .int .i64 0, .int .i64 0, .int .i64 0, .bool false] 48 := blkL
       have hw8 : BelL w w8 := belL
       generalize hX : (bestOpt key L).getD z48 = X at B11f ⊢
       clear hB hF9 h8
       go_wp2
       exact bodyPost_ret (v := .tuple #[.agg #[.int .i64 X.f0, .int .i64 X.f1.f0, .int .i64 X.f1.f1, .int .i64 X.f2, .bool X.f3], .bool (bestOpt key L).isSome, .int .i64 (keysL L).length]) (by simp [results, Tryz.results26, go_sem]) rfl ⟨by rw [hX]; rfl, belL⟩
end
end Go.Proofs.YtljipbmmgcccnaaGreat.T
end
section
namespace Go.Proofs.YtljipbmmgcccnaaGreat.T
open Go.ChangeShapes Go.WideShapes Go.ChangeAt Go.Joins Go.Deep Go.RowKit Go.Proofs.YtljipbmmgcccnaaGreatW.PrintWords Go.Proofs.YtljipbmmgcccnaaGreatW.PrintLast Go.Proofs.YtljipbmmgcccnaaGreatW.PrintMore
set_option linter.unusedVariables false
set_option linter.unusedSimpArgs false
set_option maxRecDepth 100000
theorem bulk_one {H : Type} (d : DataW H) : 1 ≤ Rows.uptoBulk d := by
 cases d with
 | lit l => cases l <;> simp [Rows.uptoBulk]
 | _ => simp [Rows.uptoBulk]
theorem bulk_len {H : Type} (l : List (DataW H)) : l.length ≤ Rows.uptoBulkAll l := by
 induction l with
 | nil => simp [Rows.uptoBulkAll]
 | cons x r ih => have := bulk_one x; simp only [Rows.uptoBulkAll, List.length_cons]; omega
theorem bulk_sum {H α : Type} {B : α → Nat} {f : Nat → α} {D : Nat → DataW H} : ∀ {l : List Nat}, (∀ i ∈ l, B (f i) ≤ Rows.uptoBulk (D i)) → ((l.map f).map B).sum ≤ Rows.uptoBulkAll (l.map D)
 | [], _ => by simp [Rows.uptoBulkAll]
 | i :: l, h => by
   have h1 := h i (List.mem_cons_self ..)
   have h2 := bulk_sum (l := l) (fun j hj => h j (List.mem_cons_of_mem _ hj))
   simp only [List.map_cons, List.sum_cons, Rows.uptoBulkAll]
   omega
def Opb {α : Type} (k : Kd α) (T : TypeId) (B : α → Nat) : Prop := ∀ {H : Type} {enc : TypeId × Value → H} {W : World} {base : Nat} {spare : Nat → Bool} {held : Bool} {n : Nat} {cs : List Value} {y : DataW H × List MemPlace},
 DataW.trod enc Tryz.prog W base spare held n T cs = some y → ∃ x : α, k.K W x cs ∧ B x ≤ Rows.uptoBulk y.1
theorem opb_of {α : Type} {k : Kd α} {T : TypeId} (h : Opn k T) : Opb k T fun _ => 0 := fun hy => by
 obtain ⟨x, hx⟩ := h hy
 exact ⟨x, hx, Nat.zero_le _⟩
theorem open_slb {α : Type} {k : Kd α} {B : α → Nat} {e T : TypeId} (hu : Tryz.prog.underlying T = some (.slice e)) (hs : Tryz.prog.cellsOf e = k.sz) (ho : Opb k e B) (z : α)
 {H : Type} {enc : TypeId × Value → H} {W : World} {base : Nat} {spare : Nat → Bool} {held : Bool} {n : Nat} {cs : List Value} {y : DataW H × List MemPlace}
 (h : DataW.trod enc Tryz.prog W base spare held n T cs = some y) :
 ∃ A len cap xs, cs = [.slice A len cap] ∧ Sr k W A len cap xs ∧ len ≤ Rows.uptoBulk y.1 ∧ (xs.map B).sum ≤ Rows.uptoBulk y.1 := by
 rcases open_slice hu h with ⟨rfl, _⟩ | ⟨x, l, c, m, q, D, Pl, rfl, hb, hl, hm, hmm, hx, hall⟩
 ·exact ⟨none, 0, 0, [], rfl, ⟨rfl, Nat.le_refl _, ⟨rfl, by omega, fun h => absurd h (by omega)⟩⟩, Nat.zero_le _, by simp⟩
 ·have hlm : l ≤ m := by rw [hmm]; split <;> omega
  have each : ∀ i, i < l → ∃ (y : α), B y ≤ Rows.uptoBulk (D i) ∧ ∃ (cs' : List Value), k.K W y cs' ∧ ∀ q u, cs'[q]? = some u → W.cell? (x.add (i * k.sz + q)) = some u := by
   intro i hi
   obtain ⟨cs', h1, h2⟩ := hall i (by omega)
   rw [hs] at h1
   obtain ⟨y, hy, hg⟩ := ho h2
   refine ⟨y, hg, cs', hy, fun q u hu' => ?_⟩
   obtain ⟨_, _, hc⟩ := World.cells?_some h1
   have hq : q < k.sz := by
    have := (List.getElem?_eq_some_iff.1 hu').1
    rwa [k.K_len hy] at this
   have := (hc q hq).trans hu'
   rw [show x.add (i * k.sz + q) = (x.add (i * k.sz)).add q from (Addr.add_add x (i * k.sz) q).symm]
   exact this
  obtain ⟨f, hfun⟩ : ∃ f : Nat → α, ∀ i, i < l → B (f i) ≤ Rows.uptoBulk (D i) ∧ ∃ cs' : List Value, k.K W (f i) cs' ∧ ∀ q u, cs'[q]? = some u → W.cell? (x.add (i * k.sz + q)) = some u := by
   refine ⟨fun i => if h : i < l then (each i h).choose else z, fun i hi => ?_⟩
   simp only [dif_pos hi]
   exact (each i hi).choose_spec
  have hbk : Rows.uptoBulkAll ((List.range l).map D) ≤ Rows.uptoBulk y.1 := by
   rw [hx]
   simp only [Rows.uptoBulk]
   omega
  refine ⟨some x, l, c, (List.range l).map f, rfl, ⟨by simp, hl, ⟨by simp, ?_, fun _ => ⟨x, rfl, fun i y hy => ?_⟩⟩⟩, ?_, ?_⟩
  ·unfold maxLen at hm; omega
  ·have hi : i < l := by
    rcases Nat.lt_or_ge i l with h | h
    ·exact h
    ·rw [List.getElem?_eq_none (by simpa using h)] at hy; cases hy
   rw [List.getElem?_map, List.getElem?_range hi] at hy
   obtain rfl := Option.some.inj hy
   obtain ⟨_, cs', hk, hcell⟩ := hfun i hi
   exact ⟨cs', k.K_len hk, hk, hcell⟩
  ·have := bulk_len ((List.range l).map D)
   rw [List.length_map, List.length_range] at this
   omega
  ·exact Nat.le_trans (bulk_sum fun i hi => (hfun i (List.mem_range.1 hi)).1) hbk
def bulkV (v : S25) : Nat := v.f1.length + v.f2.length
def bulkN (x : S40) : Nat := bulkV x.f1 + 3 * x.f2.length + x.f3.length
theorem sum_three {α : Type} (l : List α) : (l.map fun _ => 3).sum = 3 * l.length := by
 induction l with
 | nil => rfl
 | cons x r ih => simp only [List.map_cons, List.sum_cons, List.length_cons, ih]; omega
theorem opb48 : Opb k48 48 (fun _ => 3) := by
 intro H enc W base spare held n cs y h
 obtain ⟨x, hx⟩ := opn48 h
 obtain ⟨y0, y1, y2, y3, m, hy, _⟩ := trod_struct4 Tryz.underlying48 h
 refine ⟨x, hx, ?_⟩
 rw [hy]
 have := bulk_one y0.1
 have := bulk_one y1.1
 simp only [Rows.uptoBulk, Rows.uptoBulkAll]
 omega
theorem opb126 : Opb k126 126 (fun _ => 3) := by
 intro H enc W base spare held n cs y h
 obtain ⟨x, hx⟩ := opn126 h
 obtain ⟨xs, m, _, hy, hl, hlen, hf⟩ := DataW.trod_struct Tryz.underlying126 h
 refine ⟨x, hx, ?_⟩
 rw [hy]
 match xs, hlen with
 | [y0, y1, y2, y3, y4, y5, y6], _ =>
   have := bulk_one y0.1
   have := bulk_one y1.1
   simp only [Rows.uptoBulk, Rows.uptoBulkAll, List.map_cons, List.map_nil]
   omega
theorem opb25 : Opb k25 25 bulkV := by
 intro H enc W base spare held n cs y h
 obtain ⟨y0, y1, y2, m, hx, hl, h0, h1, h2⟩ := trod_struct3 Tryz.underlying25 h
 rw [cells25] at hl
 rw [hx]
 match cs, hl with
 | [c0, c1, c2], _ =>
   simp only [cells3, cells22, cells23, List.drop, List.take] at h0 h1 h2
   obtain ⟨id, e0, _, _⟩ := DataW.trod_int Tryz.underlying3 h0
   obtain ⟨A, n, c, ps, e1, s1, b1, _⟩ := open_slb Tryz.underlying22 cells98 (opb_of opn98) z98 h1
   obtain ⟨B, m, e, xs, e2, s2, b2, _⟩ := open_slb Tryz.underlying23 cells3 (opb_of opn3) 0 h2
   simp only [List.cons.injEq, and_true] at e0 e1 e2
   subst e0 e1 e2
   obtain rfl := s1.len
   obtain rfl := s2.len
   refine ⟨⟨id, ps, xs⟩, k25_mk W ⟨id, ps, xs⟩ s1.le s1.C s2.le s2.C, ?_⟩
   simp only [Rows.uptoBulk, Rows.uptoBulkAll, bulkV]
   omega
theorem opb40 : Opb k40 40 bulkN := by
 intro H enc W base spare held n cs y h
 obtain ⟨y0, y1, y2, y3, m, hx, hl, h0, h1, h2, h3⟩ := trod_struct4 Tryz.underlying40 h
 rw [cells40] at hl
 rw [hx]
 match cs, hl with
 | [c0, c1, c2, c3, c4, c5], _ =>
   simp only [cells4, cells25, cells37, cells38, List.drop, List.take] at h0 h1 h2 h3
   obtain ⟨up, e0, _⟩ := DataW.trod_bool Tryz.underlying4 h0
   obtain ⟨v, hv, g1⟩ := opb25 h1
   obtain ⟨A1, d1, A2, d2, e1, l1, q1, l2, q2⟩ := k25_open hv
   obtain ⟨I, ni, ci, is, e2, s2, _, b2⟩ := open_slb Tryz.underlying37 cells48 opb48 z48 h2
   rw [sum_three] at b2
   obtain ⟨L, nl, cl, ls, e3, s3, b3, _⟩ := open_slb Tryz.underlying38 cells77 (opb_of opn77) z77 h3
   simp only [List.cons.injEq, and_true] at e0 e1 e2 e3
   obtain ⟨rfl, rfl, rfl⟩ := e1
   subst e0 e2 e3
   obtain rfl := s2.len
   obtain rfl := s3.len
   refine ⟨⟨up, v, is, ls⟩, k40_mk W ⟨up, v, is, ls⟩ l1 q1 l2 q2 s2.le s2.C s3.le s3.C, ?_⟩
   simp only [Rows.uptoBulk, Rows.uptoBulkAll, bulkN]
   omega
theorem sum_each {ns : List S40} {x : S40} (h : x ∈ ns) : bulkN x ≤ (ns.map bulkN).sum := by
 induction ns with
 | nil => cases h
 | cons y r ih =>
   simp only [List.map_cons, List.sum_cons]
   rcases List.mem_cons.1 h with rfl | h
   ·omega
   ·have := ih h; omega
theorem items_sum (ns : List S40) : 3 * (itemsN ns).length ≤ (ns.map bulkN).sum := by
 induction ns with
 | nil => simp [itemsN]
 | cons y r ih =>
   unfold itemsN at ih ⊢
   simp only [List.flatMap_cons, List.length_append, List.map_cons, List.sum_cons]
   have hb : 3 * y.f2.length ≤ bulkN y := by unfold bulkN; omega
   omega
theorem open_bulk {H : Type} {enc : TypeId × Value → H} {w : World} {r : _root_.Go.Reach} {b0 base : Nat} {spare : Nat → Bool} {held : Bool} {v : Value} {d : DataW H} {p : List MemPlace}
 (hv : Value.okWide Tryz.prog w r b0 61 v) (h : DataW.Trod enc Tryz.prog w base spare held 61 v d p) (hw : Rows.uptoBulk d ≤ 1048576) :
 ∃ (A : Option Addr) (n c : Nat) (ns : List S40) (B : Option Addr) (m e : Nat) (C : Option Addr) (k f : Nat) (ps : List S126), v = .agg #[.slice A n c, .slice B m e, .slice C k f] ∧ Sr k40 w A n c ns ∧ Sr k126 w C k f ps ∧ nodesFit ns ∧ (itemsN ns).length + k ≤ 500000 := by
 obtain ⟨cs, rfl, hsz⟩ := okWide_struct Tryz.underlying61 hv
 obtain ⟨fuel, hf⟩ := h
 obtain ⟨y0, y1, y2, m, hx, hl, h0, h1, h2⟩ := trod_struct3 Tryz.underlying61 hf
 obtain ⟨c0, c1, c2, rfl⟩ := array3 (hsz.trans cells61)
 have hx1 : d = .agg [y0.1, y1.1, y2.1] := congrArg Prod.fst hx
 rw [hx1] at hw
 simp only [Rows.uptoBulk, Rows.uptoBulkAll] at hw
 simp only [Value.cells, cells57, cells58, cells59, List.drop, List.take] at h0 h1 h2
 obtain ⟨A, n, c, ns, e0, s0, b0, g0⟩ := open_slb Tryz.underlying57 cells40 opb40 z40 h0
 obtain ⟨B, m, e, xs, e1, s1⟩ := open_sl Tryz.underlying58 cells157 opn157 z157 h1
 obtain ⟨C, k, f, ps, e2, s2, _, b2⟩ := open_slb Tryz.underlying59 cells126 opb126 z126 h2
 rw [sum_three, s2.len] at b2
 simp only [List.cons.injEq, and_true] at e0 e1 e2
 subst e0 e1 e2
 refine ⟨A, n, c, ns, B, m, e, C, k, f, ps, rfl, s0, s2, fun x hx => ?_, ?_⟩
 ·have h1 := sum_each hx
  have h3 : bulkN x ≤ 1048576 := by omega
  clear h1
  unfold bulkN bulkV at h3
  unfold nodeSz
  omega
 ·have := items_sum ns
  omega
end Go.Proofs.YtljipbmmgcccnaaGreat.T
end
section
namespace Go.Proofs.YtljipbmmgcccnaaGreat.T
open Go.RowKit Go.Proofs.YtljipbmmgcccnaaGreatW.PrintWords Go.Proofs.YtljipbmmgcccnaaGreatW.PrintLast Go.Proofs.YtljipbmmgcccnaaGreatW.PrintMore
attribute [local go_sem] cell_tc frozen_tc max2_int min2_int
attribute [local go_sem ↓] Go.wp_at_zero Go.wp_at_succ
set_option linter.unusedVariables false
set_option linter.unusedSimpArgs false
set_option synthInstance.maxHeartbeats 400000
set_option synthInstance.maxSize 512
section
attribute [local go_sem] cell_tc2
theorem nodesFit_of {ns : List S40} (h : nodesB ns = true) : nodesFit ns := fun x hx => by
 have h1 := nodeB_small ((nodesB_iff.1 h).2.2.1 x hx)
 unfold nodeSz
 omega
theorem roundsW_len {s : WS} (h : OkW s) : ∀ t, (roundsW t s).1.length = s.1.length
 | 0 => rfl
 | t + 1 => by
   have h1 := roundsW_ok h t
   have h2 := roundsW_len h t
   show (roundW (roundsW t s)).1.length = _
   rw [← h2]
   generalize roundsW t s = r at h1
   obtain ⟨f1, f2, f3⟩ := round_first h1
   have h512 := (queueB_iff.1 (mayB_iff.1 h1).2.1).1
   have hn : r.2.length + asks r.2 ≤ 1024 := by have := asks_le r.2; omega
   obtain ⟨_, d2, _⟩ := deliver_fold 1024 h1 hn
   have e : deliverAll 1024 r = ((deliverAll 1024 r).1, []) := Prod.ext rfl f1
   have hc : Calm (deliverAll 1024 r).1 := by
    unfold Calm
    rw [← e]
    exact f2
   rw [f3, e]
   have h3 := congrArg List.length ((round_law hc).2.1)
   have h4 := congrArg List.length d2
   rw [List.length_map, List.length_map] at h3 h4
   exact h3.trans h4
set_option maxRecDepth 100000 in
set_option maxHeartbeats 16000000 in
theorem rounds_ {many : Nat} {n c d k f : Nat} {A B C : Option Addr} {ns : List S40} {ps : List S126} {w : World} [h : Sr k40 w A n c ns] [q : Sr k126 w C k f ps] (hO : OkW (ns, ps)) (hm : 1 ≤ many) (hm2 : many ≤ 100) :
 Calls Tryz.prog 23 #[.agg #[.slice A n c, .slice B 0 d, .slice C k f], .int .i64 many] w fun e w' => ∃ v, e = .returned (.tuple #[v, .bool true]) ∧ WorldR w' w.heap.size v (roundsW many (ns, ps)).1 (roundsW many (ns, ps)).2 ∧ BelL w w' := by
 obtain rfl := h.len
 obtain rfl := q.len
 have s1 := sr_l h
 have s2 := sr_l q
 clear h q
 generalize hy : roundsW many (ns, ps) = y
 have HY := Aside0.mk hy
 clear hy
 go_enter Tryz.func23, Tryz.ntmps23
 go_wp2_with (first | (with_reducible refine box_tc rfl (N := 2) rfl (cs := #[.slice A ns.length c, .slice B 0 d, .slice C ps.length f]) (t := 61) ?hr ?_; (case hr => go_simp <;> rfl); intro g2 wg2 _ _ _) | (with_reducible refine box_tc rfl (N := 4) rfl (cs := #[.slice none 0 0, .slice none 0 0, .slice none 0 0]) (t := 61) ?hr ?_; (case hr => go_simp <;> rfl); intro g4 wg4 _ _ _))
 refine wp_letter fun wl hbl => ?_
 have B2 : BlkL wl g2 #[.slice A ns.length c, .slice B 0 d, .slice C ps.length f] 61 := blkL
 have B4 : BlkL wl g4 #[.slice none 0 0, .slice none 0 0, .slice none 0 0] 61 := blkL
 have hwl : BelL w wl := belL
 have G2 : GE w g2 := inferInstance
 have G4 : GE w g4 := inferInstance
 have l2 : LtB g2 wl.heap.size := inferInstance
 have l4 : LtB g4 wl.heap.size := inferInstance
 have n24 : NeB g2 g4 := inferInstance
 have n42 : NeB g4 g2 := inferInstance
 go_loopg [6, 7, 8] many (fun kq v6 v7 v8 w' => ∃ (i : Nat) (s : WS), v6 = .int .i64 i ∧ i ≤ many ∧ kq = many - i ∧ OkW s ∧ Aside0 (roundsW i (ns, ps) = s) ∧ LeB wl.heap.size w'.heap.size ∧ BelL w w' ∧ BlkL w' g4 #[.slice none 0 0, .slice none 0 0, .slice none 0 0] 61 ∧ ((i = 0 ∧ BlkL w' g2 #[.slice A ns.length c, .slice B 0 d, .slice C ps.length f] 61) ∨ ∃ (A' : Option Addr) (c' : Nat) (B' : Option Addr) (d' : Nat) (C' : Option Addr) (f' : Nat), 1 ≤ i ∧ BlkL w' g2 #[.slice A' s.1.length c', .slice B' 0 d', .slice C' s.2.length f'] 61 ∧ FrL k40 40 w' w.heap.size (Three w'.heap.size g2 g4) A' s.1.length c' s.1 ∧ FrL k126 126 w' w.heap.size (Three w'.heap.size g2 g4) C' s.2.length f' s.2))
 case atStart => exact ⟨0, (ns, ps), rfl, Nat.zero_le _, rfl, hO, ⟨rfl⟩, inferInstance, belL, blkL, .inl ⟨rfl, blkL⟩⟩
 case round =>
  obtain ⟨i, s, rfl, hi, rfl, hOs, HS, hle, hbr, hB4, hor⟩ := hrel
  by_cases hlt : i < many
  ·have HLS := Aside0.mk (show s.1.length = ns.length by have := roundsW_len hO i; rwa [HS.out] at this)
   have hOz := roundW_ok hOs
   have hlz : (roundW s).1.length = ns.length := by
    have := roundsW_len hO (i + 1)
    rw [show roundsW (i + 1) (ns, ps) = roundW s from congrArg roundW HS.out] at this
    exact this
   have HN := Aside0.mk (show roundsW (i + 1) (ns, ps) = roundW s from congrArg roundW HS.out)
   generalize hz : roundW s = z at HN hOz hlz
   have HZ := Aside0.mk hz
   clear hz
   have HFt := Aside0.mk (nodesFit_of (mayB_parts hOz).1)
   have HMy := Aside0.mk (show mayB z.1 z.2 = true from hOz)
   have hne : ((z.1.length : Int) != (s.1.length : Int)) = false := by rw [hlz, HLS.out]; simp
   clear hlz
   rcases hor with ⟨rfl, hB2⟩ | ⟨A', c', B', d', C', f', hi1, hB2, hs1, hs2⟩
   ·obtain rfl : s = (ns, ps) := HS.out.symm
    go_upto_region 5 with (first | (go_at_call 27; (with_reducible refine cM (round_ (ns := ns) (ps := ps) hOs) ?_); rw [HZ.out]; rintro e w3 ⟨v3, rfl, ⟨A3, c3, B3, d3, C3, f3, rfl, hF3, hG3⟩, hb3⟩; have hbw3 : BelL w w3 := belL) | (with_reducible refine box_tc rfl (N := 7) rfl (cs := #[.slice none 0 0, .slice none 0 0, .slice none 0 0]) (t := 61) ?hr ?_; (case hr => go_simp <;> rfl); intro g7 wg7 _ _ _))
    go_wp2_with (first | (go_at_call 11; (with_reducible refine cM (num _ _) ?_); rintro e w' ⟨rfl, ⟨nd, rfl⟩⟩) | (go_at_call 62; (with_reducible refine cM (refWorld_ (ns := z.1) (ps := z.2) HFt.out) ?_); rw [HMy.out]; rintro e w4 ⟨rfl, hb4⟩; have hbw4 : BelL w w4 := belL))
    go_roundg (many - (0 + 1))
    case measure => omega
    case rel => exact ⟨0 + 1, z, by go_num, by omega, rfl, hOz, HN, inferInstance, belL, blkL, .inr ⟨A3, c3, B3, d3, C3, f3, by omega, blkL, frl_three, frl_three⟩⟩
   ·go_upto_region 5 with (first | (go_at_call 27; (with_reducible refine cM (round_ (ns := s.1) (ps := s.2) hOs) ?_); rw [HZ.out]; rintro e w3 ⟨v3, rfl, ⟨A3, c3, B3, d3, C3, f3, rfl, hF3, hG3⟩, hb3⟩; have hbw3 : BelL w w3 := belL) | (with_reducible refine box_tc rfl (N := 7) rfl (cs := #[.slice none 0 0, .slice none 0 0, .slice none 0 0]) (t := 61) ?hr ?_; (case hr => go_simp <;> rfl); intro g7 wg7 _ _ _))
    go_wp2_with (first | (go_at_call 11; (with_reducible refine cM (num _ _) ?_); rintro e w' ⟨rfl, ⟨nd, rfl⟩⟩) | (go_at_call 62; (with_reducible refine cM (refWorld_ (ns := z.1) (ps := z.2) HFt.out) ?_); rw [HMy.out]; rintro e w4 ⟨rfl, hb4⟩; have hbw4 : BelL w w4 := belL))
    go_roundg (many - (i + 1))
    case measure => omega
    case rel => exact ⟨i + 1, z, by go_num, by omega, rfl, hOz, HN, inferInstance, belL, blkL, .inr ⟨A3, c3, B3, d3, C3, f3, by omega, blkL, frl_three, frl_three⟩⟩
  ·obtain rfl : i = many := by omega
   rcases hor with ⟨rfl, hB2⟩ | ⟨A', c', B', d', C', f', hi1, hB2, hs1, hs2⟩
   ·omega
   ·obtain rfl : s = y := HS.out.symm.trans HY.out
    go_wp2
    exact bodyPost_ret (v := .tuple #[.agg #[.slice A' s.1.length c', .slice B' 0 d', .slice C' s.2.length f'], .bool true]) (by simp [results, Tryz.results23, go_sem]) rfl ⟨_, rfl, ⟨A', c', B', d', C', f', rfl, frl, frl⟩, belL⟩
end
section
attribute [local go_sem] cell_tc2 frozen_row
theorem lit_row {W : World} {g : Nat} {zs : List Int} (h : BlkL W g ((zs.map (Value.int .i64)).toArray) 3) (hl : zs.length ≤ 1000000) : FrL kI 3 W g Any (some ⟨g, 0, none⟩) zs.length zs.length zs := by
 refine ⟨rfl, Nat.le_refl _, fun _ _ => trivial, zs.map (Value.int .i64), ⟨?_, .inr ⟨g, zs.length, _, rfl, Nat.le_refl _, h.out, Nat.le_refl _, ?_, ?_, ?_⟩⟩, ⟨?_, fun j p hj => ?_⟩⟩
 ·show (zs.map (Value.int .i64)).length = zs.length * 1
  simp
 ·show zs.length ≤ maxLen
  unfold maxLen
  omega
 ·show ((zs.map (Value.int .i64)).toArray).size = zs.length * 1
  simp
 ·show ((zs.map (Value.int .i64)).toArray).toList.take (zs.length * 1) = zs.map (Value.int .i64)
  rw [Nat.mul_one]
  exact List.take_of_length_le (by simp)
 ·show (zs.map (Value.int .i64)).length = zs.length * 1
  simp
 ·show ((zs.map (Value.int .i64)).drop (j * 1)).take 1 = [Value.int .i64 p]
  have hjl := (List.getElem?_eq_some_iff.1 hj).1
  rw [Nat.mul_one, List.drop_eq_getElem_cons (by simpa using hjl)]
  simp
  exact (List.getElem?_eq_some_iff.1 hj).2
theorem made_zero (k : Nat) : madeCells #[.int .i64 0] k = (((List.replicate k (0 : Int)).map (Value.int .i64)).toArray) := by
 apply Array.ext
 ·simp [madeCells]
 ·intro i h1 h2
  simp [madeCells]
  rw [Nat.mod_one]
  rfl
section
variable {ops : Array Oper} {rest : List Oper} {o : Oper} {a : Act} {Q : Exit → Act → World → Prop}
theorem make_int {W : World} (hgd : o.guard = none) {k : Nat} {x : Operand} (ho : o.op = .makeSlice 23 x x) (hx : a.eval x = .int .i64 k) (hk : k ≤ 1000000)
 (h : ∀ g w1, FrL kI 3 w1 g Any (some ⟨g, 0, none⟩) k k (List.replicate k 0) → RowL w1 g → BelL W w1 → GEL W g → wpList Tryz.prog ops Q rest (a.put o.dst (.slice (some ⟨g, 0, none⟩) k k)) w1) : wpList Tryz.prog ops Q (o :: rest) a W := by
 have hi : (Tryz.prog.info? 3).map (fun i => (i.size, i.bytes, i.zero)) = some (1, 8, some (.int .i64 0)) := by kernel_rfl
 obtain ⟨i, i1, i5⟩ := Option.map_eq_some_iff.1 hi
 simp only [Prod.mk.injEq] at i5
 obtain ⟨i2, i3, i4⟩ := i5
 have hr := run_make (P := Tryz.prog) W 23 3 i (.int .i64 0) Tryz.underlying23 i1 i4 .i64 .i64 (k : Int) (k : Int) (by omega) (Int.le_refl _) (by rw [i3]; omega) (by omega)
 simp only [Int.toNat_natCast, i2, Nat.mul_one] at hr
 rw [show (Value.int IntKind.i64 0).cells = #[.int .i64 0] from rfl, made_zero] at hr
 refine Kd.event_run hgd (v := .slice (some ⟨W.heap.size, 0, none⟩) k k) (w1 := W.alloc (.cells (((List.replicate k (0 : Int)).map (Value.int .i64)).toArray) 3 (0, 0))) ?_ (h _ _ ?_ ⟨_, _, blk_new W _⟩ ⟨below_alloc (Below.refl _ _) _⟩ ⟨Nat.le_refl _⟩)
 ·clear h hi i1 i2 i3 i4
  generalize a.eval = ev at hx
  unfold execOp
  rw [ho]
  simp only [hx]
  generalize hA : W.alloc (.cells (((List.replicate k (0 : Int)).map (Value.int .i64)).toArray) 3 (0, 0)) = W2 at hr ⊢
  simp [hr, go_sem]
 ·have := lit_row (W := W.alloc (.cells (((List.replicate k (0 : Int)).map (Value.int .i64)).toArray) 3 (0, 0))) (g := W.heap.size) (zs := List.replicate k 0) ⟨blk_new W _⟩ (by rw [List.length_replicate]; exact hk)
  rwa [List.length_replicate] at this
end
set_option maxHeartbeats 2000000 in
theorem knows_ {id : Int} {A B : Option Addr} {n c m d : Nat} {ps : List S98} {xs : List Int} {w : World} [h1 : Sr k98 w A n c ps] [h2 : Sr kI w B m d xs] (hn : n ≤ 100000) (hm : m ≤ 100000) :
 Calls Tryz.prog 63 #[.agg #[.int .i64 id, .slice A n c, .slice B m d]] w fun e w' => ∃ A' c', e = .returned (.slice A' (n + m) c') ∧ FrL kI 3 w' w.heap.size (Under w'.heap.size) A' (n + m) c' (idsOf ps ++ xs) ∧ BelL w w' := by
 obtain rfl := h1.len
 obtain rfl := h2.len
 have s1 := sr_l h1
 have s2 := sr_l h2
 clear h1 h2
 go_enter Tryz.func63, Tryz.ntmps63
 go_wp2_with (first | (with_reducible refine box_tc rfl (N := 1) rfl (cs := #[.int .i64 id, .slice A ps.length c, .slice B xs.length d]) (t := 25) ?hr ?_; (case hr => go_simp <;> rfl); intro g1 wg1 _ _ _) | (go_at_call 114; (with_reducible refine cM (refNames_ (ps := ps) (by omega)) ?_); rintro e wn ⟨An, cn, rfl, hFn, hbn⟩) | ((with_reducible refine gate_dst (N := 10) rfl ?_); refine app_tc (k := kI) (t := 23) (A := An) (n := ps.length) (c := cn) (B := B) (m := xs.length) (d := d) (by rfl) (by rfl) Tryz.underlying23 (by rfl) (by rfl) (by omega) ?_; intro A4 c4 w4 _ _ _))
 go_ret
 exact ⟨_, _, rfl, frl, belL⟩
end
section
attribute [local go_sem] cell_tc2 frozen_row
theorem cell_I {W : World} {g n c : Nat} {l : List Int} [h : Sr kI W (some ⟨g, 0, none⟩) n c l] (i : Nat) (hi : i < l.length) : CellL W ⟨g, i, none⟩ (.int .i64 l[i]) := by
 obtain ⟨ad, e, q⟩ := el_I (W := W) (A := some ⟨g, 0, none⟩) (n := n) (c := c) (l := l) i hi
 injection e with e
 subst e
 have := q.out
 rw [Addr.add_lit, Nat.zero_add] at this
 exact ⟨this⟩
def fillZ (k i : Nat) : List Int := (List.range i).map (fun j : Nat => (j : Int)) ++ List.replicate (k - i) 0
theorem fillZ_len {k i : Nat} (h : i ≤ k) : (fillZ k i).length = k := by unfold fillZ; simp; omega
theorem fillZ_set {k i : Nat} (h : i < k) : (fillZ k i).set i (i : Int) = fillZ k (i + 1) := by
 unfold fillZ
 have e : ((List.range i).map (fun j : Nat => (j : Int))).length = i := by simp
 rw [List.set_append_right _ _ (by rw [e]; exact Nat.le_refl i), e, Nat.sub_self, List.range_succ, List.map_append, List.append_assoc]
 congr 1
 obtain ⟨d, hd⟩ : ∃ d, k - i = d + 1 := ⟨k - i - 1, by omega⟩
 have hd2 : k - (i + 1) = d := by omega
 rw [hd, hd2, List.replicate_succ]
 rfl
def partOk (ns : List S40) (zs : List Int) : Prop := zs.length = ns.length ∧ ∀ (i : Nat) (h : i < zs.length) (h' : i < ns.length), ∃ (j : Nat) (hj : j < ns.length), zs[i] = (j : Int) ∧ Conn (Kn ns) (nid ns[i]) (nid ns[j])
theorem part_start (ns : List S40) : partOk ns (fillZ ns.length ns.length) := by
 refine ⟨fillZ_len (Nat.le_refl _), fun i h h' => ⟨i, h', ?_, .refl _⟩⟩
 have e : (fillZ ns.length ns.length)[i]? = some (i : Int) := by unfold fillZ; simp [h']
 exact (List.getElem?_eq_some_iff.1 e).2
theorem part_step {ns : List S40} {zs : List Int} (h : partOk ns zs) {i q : Nat} (hi : i < ns.length) (hq : q < ns.length) (hiz : i < zs.length) (hqz : q < zs.length) (hk : Kn ns (nid ns[i]) (nid ns[q])) {p : Int} (hp : p = zs[i] ∨ p = zs[q]) : partOk ns ((zs.set i p).set q p) := by
 obtain ⟨h1, h2⟩ := h
 have hc : Conn (Kn ns) (nid ns[i]) (nid ns[q]) := .step (.refl _) (.inl hk)
 have hpp : ∃ (j : Nat) (hj : j < ns.length), p = (j : Int) ∧ Conn (Kn ns) (nid ns[i]) (nid ns[j]) := by
  rcases hp with hp | hp
  ·obtain ⟨j, hj, e, c⟩ := h2 i hiz hi
   exact ⟨j, hj, hp.trans e, c⟩
  ·obtain ⟨j, hj, e, c⟩ := h2 q hqz hq
   exact ⟨j, hj, hp.trans e, hc.trans c⟩
 obtain ⟨j, hj, e, c⟩ := hpp
 refine ⟨by rw [List.length_set, List.length_set]; exact h1, fun r hr hr' => ?_⟩
 rw [List.length_set, List.length_set] at hr
 rw [List.getElem_set]
 split
 ·rename_i e2
  subst e2
  exact ⟨j, hj, e, hc.symm.trans c⟩
 ·rw [List.getElem_set]
  split
  ·rename_i e2
   subst e2
   exact ⟨j, hj, e, c⟩
  ·exact h2 r hr hr'
theorem part_whole {ns : List S40} {ps : List S126} {zs : List Int} (h : partOk ns zs) (hO : mayB ns ps = true) (hu : AllUp ns) (h0 : ∀ (i : Nat) (hi : i < zs.length), zs[i] = 0) : Whole (ns, ps) := by
 obtain ⟨h1, h2⟩ := h
 have hc : ∀ a, a ∈ ns.map nid → ∃ b, Conn (Kn ns) a b ∧ ∀ (h : 0 < ns.length), b = nid ns[0] := by
  intro a ha
  obtain ⟨x, hx, rfl⟩ := List.mem_map.1 ha
  obtain ⟨i, hi, rfl⟩ := List.getElem_of_mem hx
  obtain ⟨j, hj, e, c⟩ := h2 i (by omega) hi
  rw [h0 i (by omega)] at e
  have : j = 0 := by omega
  subst this
  exact ⟨_, c, fun _ => rfl⟩
 refine ⟨hO, hu, fun a b ha hb => ?_⟩
 obtain ⟨x, cx, ex⟩ := hc a ha
 obtain ⟨y, cy, ey⟩ := hc b hb
 have hpos : 0 < ns.length := by
  have := List.length_pos_of_mem ha
  rwa [List.length_map] at this
 rw [ex hpos] at cx
 rw [ey hpos] at cy
 exact cx.trans cy.symm
set_option maxRecDepth 100000 in
set_option maxHeartbeats 16000000 in
theorem whole_ {n c m d k f : Nat} {A B C : Option Addr} {ns : List S40} {ps : List S126} {w : World} [h : Sr k40 w A n c ns] [q : Sr k126 w C k f ps] (hz : nodesFit ns) :
 Calls Tryz.prog 22 #[.agg #[.slice A n c, .slice B m d, .slice C k f]] w fun e w' => ∃ b, e = .returned (.bool b) ∧ (b = true → m = 0 ∧ k ≤ 200 ∧ Whole (ns, ps)) ∧ BelL w w' := by
 obtain rfl := h.len
 obtain rfl := q.len
 have s1 := sr_l h
 have s2 := sr_l q
 have HZ := Aside0.mk hz
 clear h q hz
 by_cases hm0 : m = 0
 ·subst hm0
  by_cases hp : ps.length ≤ 200
  ·have hp2 : decide ((200 : Int) < (ps.length : Int)) = false := decide_eq_false (by omega)
   have HP := Aside0.mk hp
   clear hp
   cases hO : mayB ns ps
   ·go_enter Tryz.func22, Tryz.ntmps22
    go_wp2_with (first | (with_reducible refine box_tc rfl (N := 1) rfl (cs := #[.slice A ns.length c, .slice B 0 d, .slice C ps.length f]) (t := 61) ?hr ?_; (case hr => go_simp <;> rfl); intro g1 wg1 _ _ _) | (go_at_call 62; (with_reducible refine cM (refWorld_ (ns := ns) (ps := ps) HZ.out) ?_); rw [hO]; rintro e wv ⟨rfl, hbv⟩))
    go_ret
    exact ⟨false, rfl, fun e => (nomatch e), belL⟩
   ·have hns := (mayB_parts hO).1
    have hN8 := (nodesB_len hns).2
    have HV0 := Aside0.mk (show ∀ (i : Nat) (hi : i < ns.length), ns[i].f1.f1.length ≤ 100000 ∧ ns[i].f1.f2.length ≤ 100000 from fun i hi => by
     have := viewB_len (nodeB_view ((nodesB_iff.1 hns).2.2.1 _ (List.getElem_mem hi)))
     omega)
    have HO := Aside0.mk hO
    have HK := Aside0.mk ((mayB_iff.1 hO).2.2.1)
    clear hns
    go_enter Tryz.func22, Tryz.ntmps22
    go_wp2_with (first | (with_reducible refine box_tc rfl (N := 1) rfl (cs := #[.slice A ns.length c, .slice B 0 d, .slice C ps.length f]) (t := 61) ?hr ?_; (case hr => go_simp <;> rfl); intro g1 wg1 _ _ _) | (go_at_call 62; (with_reducible refine cM (refWorld_ (ns := ns) (ps := ps) HZ.out) ?_); rw [hO]; rintro e wv ⟨rfl, hbv⟩) | ((with_reducible refine gate_dst (N := 32) rfl ?_); refine make_int (k := ns.length) (by rfl) (by rfl) (by rfl) (by omega) ?_; intro gp wp hFp hRp hBp hGp))
    refine wp_letter fun wl hbl => ?_
    have B1 : BlkL wl g1 #[.slice A ns.length c, .slice B 0 d, .slice C ps.length f] 61 := blkL
    have Gp : GE w gp := inferInstance
    have Lp : LeB w.heap.size gp := ⟨Gp.out⟩
    have F1 : FrL kI 3 wl w.heap.size (Under wl.heap.size) (some ⟨gp, 0, none⟩) ns.length ns.length (fillZ ns.length 0) := by rw [show fillZ ns.length 0 = List.replicate ns.length 0 by unfold fillZ; simp]; exact frl
    have R1 : RowL wl gp := ⟨Row.out⟩
    have hwl : BelL w wl := belL
    have G1 : GE w g1 := inferInstance
    have Gp : GE w gp := inferInstance
    have n1p : NeB g1 gp := inferInstance
    clear hFp hRp hBp hGp
    go_loopg [5] ns.length (fun kq v5 w' => ∃ i : Nat, v5 = .int .i64 i ∧ i ≤ ns.length ∧ kq = ns.length - i ∧ BlkL w' g1 #[.slice A ns.length c, .slice B 0 d, .slice C ps.length f] 61 ∧ FrL kI 3 w' w.heap.size (Under w'.heap.size) (some ⟨gp, 0, none⟩) ns.length ns.length (fillZ ns.length i) ∧ RowL w' gp ∧ BelL w w')
    case atStart => exact ⟨0, rfl, Nat.zero_le _, rfl, blkL, F1, ⟨Row.out⟩, belL⟩
    case round =>
     obtain ⟨i, rfl, hi, rfl, hB, hF, hR, hbr⟩ := hrel
     by_cases hlt : i < ns.length
     ·have q1 := cell_I (W := wr) (g := gp) (n := ns.length) (c := ns.length) (l := fillZ ns.length i) i (by rw [fillZ_len hi]; exact hlt)
      go_wp2
      have hF2 := set_int (W := wr) (g := gp) (n := ns.length) (c := ns.length) (l := fillZ ns.length i) inferInstance i hlt (i : Int)
      rw [fillZ_set hlt] at hF2
      go_roundg (ns.length - (i + 1))
      case measure => omega
      case rel => exact ⟨i + 1, by go_num, by omega, rfl, blkL, frl, ⟨Row.out⟩, belL⟩
     ·obtain rfl : i = ns.length := by omega
      go_wp2
      have HP0 := Aside0.mk (part_start ns)
      generalize fillZ ns.length ns.length = z0 at HP0 hF
      go_loopg [6, 7, 8, 9, 10, 11] ns.length (fun kq v6 v7 v8 v9 v10 v11 w' => ∃ (t : Nat) (zs : List Int), v6 = .int .i64 t ∧ t ≤ ns.length ∧ kq = ns.length - t ∧ BlkL w' g1 #[.slice A ns.length c, .slice B 0 d, .slice C ps.length f] 61 ∧ FrL kI 3 w' w.heap.size (Under w'.heap.size) (some ⟨gp, 0, none⟩) ns.length ns.length zs ∧ RowL w' gp ∧ BelL w w' ∧ Aside0 (partOk ns zs) ∧ Aside0 (1 ≤ t → AllUp ns))
      case atStart => exact ⟨0, z0, rfl, Nat.zero_le _, rfl, blkL, frl, ⟨Row.out⟩, belL, HP0, ⟨fun h => absurd h (by decide)⟩⟩
      case round =>
       obtain ⟨t, zs, rfl, ht, rfl, hB, hF, hR, hbr2, HP1, HT⟩ := hrel
       by_cases htl : t < ns.length
       ·go_wp2
        go_loopg [7, 8, 9, 10, 11] ns.length (fun kq v7 v8 v9 v10 v11 w' => ∃ (i : Nat) (zs : List Int), v7 = .int .i64 i ∧ i ≤ ns.length ∧ kq = ns.length - i ∧ BlkL w' g1 #[.slice A ns.length c, .slice B 0 d, .slice C ps.length f] 61 ∧ FrL kI 3 w' w.heap.size (Under w'.heap.size) (some ⟨gp, 0, none⟩) ns.length ns.length zs ∧ RowL w' gp ∧ BelL w w' ∧ Aside0 (partOk ns zs) ∧ Aside0 (∀ (j : Nat) (h : j < ns.length), j < i → ns[j].f0 = true))
        case atStart => exact ⟨0, zs, rfl, Nat.zero_le _, rfl, blkL, frl, ⟨Row.out⟩, belL, HP1, ⟨fun j h hj => absurd hj (Nat.not_lt_zero _)⟩⟩
        case round =>
         obtain ⟨i, zs, rfl, hi, rfl, hB, hF, hR, hbr3, HP2, HU⟩ := hrel
         by_cases hlt : i < ns.length
         ·obtain ⟨ad, X2, y2, X3, y3, X4, y4, X5, y5, rfl, x0, x1, x2, x3, x4, x5, r2, r3, r4, r5⟩ := el_T40 (W := wr) (A := A) (n := ns.length) (c := c) (l := ns) i hlt
          have HV := Aside0.mk (show ns[i].f1.f1.length ≤ 100000 ∧ ns[i].f1.f2.length ≤ 100000 from HV0.out i hlt)
          cases hu : ns[i].f0
          ·rw [hu] at x0
           go_wp2
           go_ret
           exact ⟨false, rfl, fun e => (nomatch e), belL⟩
          ·have HU2 := Aside0.mk (show ∀ (j : Nat) (h : j < ns.length), j < i + 1 → ns[j].f0 = true from fun j h hj => by
            rcases Nat.lt_or_eq_of_le (Nat.le_of_lt_succ hj) with h2 | h2
            ·exact HU.out j h h2
            ·subst h2; exact hu)
           have HUI := Aside0.mk hu
           rw [hu] at x0
           clear hu
           go_wp2_with (first | (go_at_call 63; (with_reducible refine cM (knows_ (ps := ns[i].f1.f1) (xs := ns[i].f1.f2) HV.out.1 HV.out.2) ?_); rintro e w3 ⟨Ak, ck, rfl, hFk, hbk⟩))
           have hF3 : FrL kI 3 w3 w.heap.size (Under w3.heap.size) (some ⟨gp, 0, none⟩) ns.length ns.length zs := frl
           have hR3 : RowL w3 gp := ⟨Row.out⟩
           have hB3 : BlkL w3 g1 #[.slice (some ad) ns.length c, .slice B 0 d, .slice C ps.length f] 61 := blkL
           have hbw3 : BelL w w3 := belL
           have lgk : LtB gp wr.heap.size := inferInstance
           have hln : (idsOf ns[i].f1.f1).length = ns[i].f1.f1.length := idsOf_len _
           have HLN := Aside0.mk (show (idsOf ns[i].f1.f1 ++ ns[i].f1.f2).length = ns[i].f1.f1.length + ns[i].f1.f2.length by rw [List.length_append, hln])
           have HKI := Aside0.mk (show ∀ y ∈ namedN1 ns[i], isNode ns y = true from HK.out ns[i] (List.getElem_mem hlt))
           have HME := Aside0.mk (show namedN1 ns[i] = idsOf ns[i].f1.f1 ++ ns[i].f1.f2 from rfl)
           generalize idsOf ns[i].f1.f1 ++ ns[i].f1.f2 = ids at hFk HLN HME
           generalize hmk : ns[i].f1.f1.length + ns[i].f1.f2.length = mk at hFk HLN
           have hmk2 : mk ≤ 200000 := by have := HV.out; omega
           clear hln hmk
           obtain ⟨bk, hbk9⟩ : ∃ bk, bk = wr.heap.size := ⟨_, rfl⟩
           rw [← hbk9] at hFk lgk
           clear hbk9
           go_loopg [9, 10, 11] mk (fun kq v9 v10 v11 w' => ∃ (j : Nat) (zs : List Int), v9 = .int .i64 j ∧ j ≤ mk ∧ kq = mk - j ∧ BlkL w' g1 #[.slice (some ad) ns.length c, .slice B 0 d, .slice C ps.length f] 61 ∧ FrL kI 3 w' w.heap.size (Under w'.heap.size) (some ⟨gp, 0, none⟩) ns.length ns.length zs ∧ RowL w' gp ∧ BelL w w' ∧ Aside0 (partOk ns zs) ∧ FrL kI 3 w' bk (Both w'.heap.size gp) Ak mk ck ids)
           case atStart => exact ⟨0, zs, rfl, Nat.zero_le _, rfl, blkL, frl, ⟨Row.out⟩, belL, HP2, frl_both⟩
           case round =>
            obtain ⟨j, zs, rfl, hj, rfl, hB, hF, hR, hbr5, HP3, hFi⟩ := hrel
            by_cases hjl : j < mk
            ·have hjl2 : j < ids.length := by rw [HLN.out]; exact hjl
             obtain ⟨ax, rfl, z0⟩ := el_I (W := wr) (A := Ak) (n := mk) (c := ck) (l := ids) j hjl2
             have hmem : ids[j] ∈ namedN1 ns[i] := by rw [HME.out]; exact List.getElem_mem hjl2
             obtain ⟨q, hq, eq, eid⟩ := atI_at (HKI.out _ hmem)
             have HQ := Aside0.mk eq
             have hiz : i < zs.length := by rw [HP3.out.1]; exact hlt
             have hqz : q < zs.length := by rw [HP3.out.1]; exact hq
             have q1 := cell_I (W := wr) (g := gp) (n := ns.length) (c := ns.length) (l := zs) i hiz
             have q2 := cell_I (W := wr) (g := gp) (n := ns.length) (c := ns.length) (l := zs) q hqz
             have HST := Aside0.mk (fun (p : Int) (hp : p = zs[i] ∨ p = zs[q]) => part_step HP3.out hlt hq hiz hqz ⟨ns[i], List.getElem_mem hlt, HUI.out, rfl, by rw [show nid ns[q] = ids[j] from eid]; exact hmem⟩ hp)
             clear hmem eq eid
             generalize hzi : zs[i] = a1 at q1 HST
             generalize hzq : zs[q] = a2 at q2 HST
             clear hzi hzq
             go_upto_region 21 with (fail)
             (refine wp_region_bel (by kernel_rfl) (by kernel_rfl) ?_; (repeat (first | go_big_quiet_skip | (go_big_quiet_want; first | (go_big_quiet_op; go_big_quiet_on) | (apply Exists.intro; refine ⟨fun wq hq => ?_, ?_⟩; (focus (unfold Oper.quietAt; go_simp; first | done | exact ⟨rfl, rfl⟩ | exact rfl | (first | (go_at_call 64; refine Calls.mono (at_ (l := ns)) ?_; rintro e w1 ⟨rfl, hb⟩; exact ⟨by rw [HQ.out], belL⟩)))); (try simp only [Act.put, put3]); go_big_quiet_on)))); refine wpQuiet_nil ?_; intro w7 hb7)
             go_upto_region 22 with (fail)
             (refine wp_region_bel (by kernel_rfl) (by kernel_rfl) ?_; (repeat (first | go_big_quiet_skip | (go_big_quiet_want; first | (go_big_quiet_op; go_big_quiet_on) | (apply Exists.intro; refine ⟨fun wq hq => ?_, ?_⟩; (focus (unfold Oper.quietAt; go_simp; first | done | exact ⟨rfl, rfl⟩ | exact rfl)); (try simp only [Act.put, put3]); go_big_quiet_on)))); refine wpQuiet_nil ?_; intro w7 hb7)
             go_upto_region 24 with (fail)
             have HPM := Aside0.mk (HST.out (min a1 a2) (by omega))
             clear HST q1 q2
             generalize min a1 a2 = p at HPM ⊢
             have hF4 := set_int (W := w7) (g := gp) (n := ns.length) (c := ns.length) (l := zs) inferInstance i hlt p
             have hF5 : FrL kI 3 (w7.setCell ⟨gp, i, none⟩ (.int .i64 p)) w.heap.size _ (some ⟨gp, 0, none⟩) ns.length ns.length (zs.set i p) := ⟨hF4.len, hF4.le, hF4.R⟩
             clear hF4
             refine wp_letter fun w5 hb5 => ?_
             have hF6 : FrL kI 3 w5 w.heap.size (Under w5.heap.size) (some ⟨gp, 0, none⟩) ns.length ns.length (zs.set i p) := frl
             have hR6 : RowL w5 gp := ⟨Row.out⟩
             have hB6 : BlkL w5 g1 #[.slice (some ad) ns.length c, .slice B 0 d, .slice C ps.length f] 61 := blkL
             have hbw6 : BelL w w5 := belL
             have hFi6 : FrL kI 3 w5 bk (Both w5.heap.size gp) (some ax) mk ck ids := frl_both
             have q3 := cell_I (W := w5) (g := gp) (n := ns.length) (c := ns.length) (l := zs.set i p) q (by rw [List.length_set]; exact hqz)
             clear hF5 hb5
             go_wp2
             have hF7 := set_int (W := w5) (g := gp) (n := ns.length) (c := ns.length) (l := zs.set i p) inferInstance q hq p
             go_roundg (mk - (j + 1))
             case measure => omega
             case rel => exact ⟨j + 1, (zs.set i p).set q p, by go_num, by omega, rfl, blkL, frl, ⟨Row.out⟩, belL, HPM, frl_both⟩
            ·go_wp2
             go_roundg (ns.length - (i + 1))
             case measure => omega
             case rel => exact ⟨i + 1, zs, by go_num, by omega, rfl, blkL, frl, ⟨Row.out⟩, belL, HP3, HU2⟩
         ·obtain rfl : i = ns.length := by omega
          have HAU := Aside0.mk (show AllUp ns from fun x hx => by
           obtain ⟨j, hj, rfl⟩ := List.getElem_of_mem hx
           exact HU.out j hj hj)
          go_wp2
          go_roundg (ns.length - (t + 1))
          case measure => omega
          case rel => exact ⟨t + 1, zs, by go_num, by omega, rfl, blkL, frl, ⟨Row.out⟩, belL, HP2, ⟨fun _ => HAU.out⟩⟩
       ·obtain rfl : t = ns.length := by omega
        go_wp2
        go_loopg [12] ns.length (fun kq v12 w' => ∃ i : Nat, v12 = .int .i64 i ∧ i ≤ ns.length ∧ kq = ns.length - i ∧ FrL kI 3 w' w.heap.size (Under w'.heap.size) (some ⟨gp, 0, none⟩) ns.length ns.length zs ∧ BelL w w' ∧ Aside0 (∀ (j : Nat) (h : j < zs.length), j < i → zs[j] = 0))
        case atStart => exact ⟨0, rfl, Nat.zero_le _, rfl, frl, belL, ⟨fun j h hj => absurd hj (Nat.not_lt_zero _)⟩⟩
        case round =>
         obtain ⟨i, rfl, hi, rfl, hF, hbr4, H0⟩ := hrel
         by_cases hlt : i < ns.length
         ·have hiz : i < zs.length := by rw [HP1.out.1]; exact hlt
          have q1 := cell_I (W := wr) (g := gp) (n := ns.length) (c := ns.length) (l := zs) i hiz
          cases h0 : (zs[i] != 0)
          ·have HN := Aside0.mk (show ∀ (j : Nat) (h : j < zs.length), j < i + 1 → zs[j] = 0 from fun j h hj => by
            rcases Nat.lt_or_eq_of_le (Nat.le_of_lt_succ hj) with h2 | h2
            ·exact H0.out j h h2
            ·subst h2; simpa using h0)
           go_wp2
           go_roundg (ns.length - (i + 1))
           case measure => omega
           case rel => exact ⟨i + 1, by go_num, by omega, rfl, frl, belL, HN⟩
          ·go_wp2
           go_ret
           exact ⟨false, rfl, fun e => (nomatch e), belL⟩
         ·have HW := Aside0.mk (show Whole (ns, ps) from part_whole HP1.out HO.out (HT.out (nodesB_len (mayB_parts HO.out).1).1) (fun j hj => H0.out j hj (by have := HP1.out.1; omega)))
          go_wp2
          go_ret
          exact ⟨true, rfl, fun _ => ⟨by first | rfl | trivial, HP.out, HW.out⟩, belL⟩
  ·have hp2 : decide ((200 : Int) < (ps.length : Int)) = true := decide_eq_true (by omega)
   go_enter Tryz.func22, Tryz.ntmps22
   go_wp2_with (first | (with_reducible refine box_tc rfl (N := 1) rfl (cs := #[.slice A ns.length c, .slice B 0 d, .slice C ps.length f]) (t := 61) ?hr ?_; (case hr => go_simp <;> rfl); intro g1 wg1 _ _ _))
   go_ret
   exact ⟨false, rfl, fun e => (nomatch e), belL⟩
 ·have hm2 : decide ((0 : Int) < (m : Int)) = true := decide_eq_true (by omega)
  go_enter Tryz.func22, Tryz.ntmps22
  go_wp2_with (first | (with_reducible refine box_tc rfl (N := 1) rfl (cs := #[.slice A ns.length c, .slice B m d, .slice C ps.length f]) (t := 61) ?hr ?_; (case hr => go_simp <;> rfl); intro g1 wg1 _ _ _))
  go_ret
  exact ⟨false, rfl, fun e => (nomatch e), belL⟩
end
section
attribute [local go_sem] cell_tc2
theorem mod_idx (x : Int) {n : Nat} (h1 : 1 ≤ n) (h2 : n ≤ 1000) : ∃ kk : Nat, kk < n ∧ wrap64 ((IntKind.u64.wrap x).tmod (n : Int)) = (kk : Int) := by
 have h0 : 0 ≤ IntKind.u64.wrap x := wrap_u64_nonneg x
 generalize IntKind.u64.wrap x = y at h0
 have e : y.tmod (n : Int) = y % (n : Int) := Int.tmod_eq_emod_of_nonneg h0
 have a := Int.emod_nonneg y (show (n : Int) ≠ 0 by omega)
 have b := Int.emod_lt_of_pos y (show (0 : Int) < (n : Int) by omega)
 refine ⟨(y % (n : Int)).toNat, by omega, ?_⟩
 rw [e]
 generalize y % (n : Int) = z at a b
 show wrap64 z = _
 unfold wrap64
 omega
theorem rounds3_ {n c d k f : Nat} {A B C : Option Addr} {ns : List S40} {ps : List S126} {w : World} [h : Sr k40 w A n c ns] [q : Sr k126 w C k f ps] (hO : OkW (ns, ps)) :
 Calls Tryz.prog 23 #[.agg #[.slice A n c, .slice B 0 d, .slice C k f], .int .i64 3] w fun e w' => ∃ v, e = .returned (.tuple #[v, .bool true]) ∧ WorldR w' w.heap.size v (roundsW 3 (ns, ps)).1 (roundsW 3 (ns, ps)).2 ∧ BelL w w' :=
 rounds_ (many := 3) hO (by decide) (by decide)
theorem rounds8_ {n c d k f : Nat} {A B C : Option Addr} {ns : List S40} {ps : List S126} {w : World} [h : Sr k40 w A n c ns] [q : Sr k126 w C k f ps] (hO : OkW (ns, ps)) :
 Calls Tryz.prog 23 #[.agg #[.slice A n c, .slice B 0 d, .slice C k f], .int .i64 8] w fun e w' => ∃ v, e = .returned (.tuple #[v, .bool true]) ∧ WorldR w' w.heap.size v (roundsW 8 (ns, ps)).1 (roundsW 8 (ns, ps)).2 ∧ BelL w w' :=
 rounds_ (many := 8) hO (by decide) (by decide)
end
section
attribute [local go_sem] cell_tc2
set_option maxHeartbeats 4000000 in
theorem sameView_ {i1 i2 : Int} {A B C D : Option Addr} {n c m d k f q h : Nat} {p1 p2 : List S98} {x1 x2 : List Int} {w : World} [h1 : Sr k98 w A n c p1] [h2 : Sr kI w B m d x1] [h3 : Sr k98 w C k f p2] [h4 : Sr kI w D q h x2] :
 Calls Tryz.prog 12 #[.agg #[.int .i64 i1, .slice A n c, .slice B m d], .agg #[.int .i64 i2, .slice C k f, .slice D q h]] w fun e w' => e = .returned (.bool (i1 == i2 && (decide (p1 = p2) && decide (x1 = x2)))) ∧ BelL w w' := by
 have s1 := sr_l h1
 have s2 := sr_l h2
 have s3 := sr_l h3
 have s4 := sr_l h4
 clear h1 h2 h3 h4
 cases hi : (i1 == i2)
 ·have HI := Aside0.mk hi
  go_enter Tryz.func12, Tryz.ntmps12
  go_wp2_with (first | (with_reducible refine box_tc rfl (N := 2) rfl (cs := #[.int .i64 i1, .slice A n c, .slice B m d]) (t := 25) ?hr ?_; (case hr => go_simp <;> rfl); intro g2 wg2 _ _ _) | (with_reducible refine box_tc rfl (N := 3) rfl (cs := #[.int .i64 i2, .slice C k f, .slice D q h]) (t := 25) ?hr ?_; (case hr => go_simp <;> rfl); intro g3 wg3 _ _ _) | (go_at_call 41; (with_reducible refine cM (samePeers_ (l := p1) (r := p2)) ?_); rintro e w4 ⟨rfl, hb⟩) | (go_at_call 42; (with_reducible refine cM (sameInts_ (l := x1) (r := x2)) ?_); rintro e w5 ⟨rfl, hb⟩))
  go_ret
  exact ⟨rfl, belL⟩
 ·cases hp : decide (p1 = p2)
  ·have HP := Aside0.mk hp
   clear hp
   go_enter Tryz.func12, Tryz.ntmps12
   go_wp2_with (first | (with_reducible refine box_tc rfl (N := 2) rfl (cs := #[.int .i64 i1, .slice A n c, .slice B m d]) (t := 25) ?hr ?_; (case hr => go_simp <;> rfl); intro g2 wg2 _ _ _) | (with_reducible refine box_tc rfl (N := 3) rfl (cs := #[.int .i64 i2, .slice C k f, .slice D q h]) (t := 25) ?hr ?_; (case hr => go_simp <;> rfl); intro g3 wg3 _ _ _) | (go_at_call 41; (with_reducible refine cM (samePeers_ (l := p1) (r := p2)) ?_); rw [HP.out]; rintro e w4 ⟨rfl, hb⟩) | (go_at_call 42; (with_reducible refine cM (sameInts_ (l := x1) (r := x2)) ?_); rintro e w5 ⟨rfl, hb⟩))
   go_ret
   exact ⟨rfl, belL⟩
  ·have HP := Aside0.mk hp
   clear hp
   go_enter Tryz.func12, Tryz.ntmps12
   go_wp2_with (first | (with_reducible refine box_tc rfl (N := 2) rfl (cs := #[.int .i64 i1, .slice A n c, .slice B m d]) (t := 25) ?hr ?_; (case hr => go_simp <;> rfl); intro g2 wg2 _ _ _) | (with_reducible refine box_tc rfl (N := 3) rfl (cs := #[.int .i64 i2, .slice C k f, .slice D q h]) (t := 25) ?hr ?_; (case hr => go_simp <;> rfl); intro g3 wg3 _ _ _) | (go_at_call 41; (with_reducible refine cM (samePeers_ (l := p1) (r := p2)) ?_); rw [HP.out]; rintro e w4 ⟨rfl, hb⟩) | (go_at_call 42; (with_reducible refine cM (sameInts_ (l := x1) (r := x2)) ?_); rintro e w5 ⟨rfl, hb⟩))
   go_ret
   exact ⟨rfl, belL⟩
end
end Go.Proofs.YtljipbmmgcccnaaGreat.T
end
