/- Words and lemmas that the claim's proof names, part 15: what the program's functions answer, at the inputs that each theorem's premises name. Conditions: each theorem's own premises. -/
import Derived.Test.YtljipbmmgcccnaaGreatKS14
section
namespace Go.Proofs.YtljipbmmgcccnaaGreat.T
open Go.RowKit Go.Proofs.YtljipbmmgcccnaaGreatW.PrintWords Go.Proofs.YtljipbmmgcccnaaGreatW.PrintLast Go.Proofs.YtljipbmmgcccnaaGreatW.PrintMore
attribute [local go_sem] cell_tc frozen_tc max2_int min2_int
attribute [local go_sem ↓] Go.wp_at_zero Go.wp_at_succ
set_option linter.unusedVariables false
set_option linter.unusedSimpArgs false
set_option synthInstance.maxHeartbeats 400000
set_option synthInstance.maxSize 512
structure Grow (H : Int → Prop) (s s' : List S98 × List Int) : Prop where
  stay : ∀ p ∈ s.1, p ∈ s'.1 ∨ (⟨p.f0, 0⟩ : S98) ∈ s'.1
  back : ∀ p ∈ s'.1, p ∈ s.1 ∨ (p.f1 = 0 ∧ (H p.f0 ∨ p.f0 ∉ idsOf s.1 ++ s.2))
  know : ∀ y ∈ s.2, y ∈ s'.2 ∨ (⟨y, 0⟩ : S98) ∈ s'.1
  pass : ∀ y ∈ s'.2, y ∈ s.2
  keep : ∀ y ∈ s.2, ¬ H y → y ∈ s'.2
theorem Grow.refl {H : Int → Prop} (s : List S98 × List Int) : Grow H s s := ⟨fun _ h => .inl h, fun _ h => .inl h, fun _ h => .inl h, fun _ h => h, fun _ h _ => h⟩
theorem Grow.known {H : Int → Prop} {s s' : List S98 × List Int} (g : Grow H s s') {y : Int} (h : y ∈ idsOf s.1 ++ s.2) : y ∈ idsOf s'.1 ++ s'.2 := by
  rcases List.mem_append.1 h with h | h
  · obtain ⟨p, hp, rfl⟩ := mem_idsOf.1 h
    rcases g.stay p hp with h1 | h1
    · exact List.mem_append_left _ (mem_idsOf.2 ⟨p, h1, rfl⟩)
    · exact List.mem_append_left _ (mem_idsOf.2 ⟨_, h1, rfl⟩)
  · rcases g.know y h with h1 | h1
    · exact List.mem_append_right _ h1
    · exact List.mem_append_left _ (mem_idsOf.2 ⟨_, h1, rfl⟩)
theorem Grow.fresh {H : Int → Prop} {s s' : List S98 × List Int} (g : Grow H s s') {y : Int} (h : (⟨y, 0⟩ : S98) ∈ s.1) : (⟨y, 0⟩ : S98) ∈ s'.1 := by
  rcases g.stay _ h with h1 | h1 <;> exact h1
theorem Grow.trans {H : Int → Prop} {s s' s2 : List S98 × List Int} (g : Grow H s s') (k : Grow H s' s2) : Grow H s s2 := by
  refine ⟨fun p hp => ?_, fun p hp => ?_, fun y hy => ?_, fun y hy => g.pass y (k.pass y hy), fun y hy hn => k.keep y (g.keep y hy hn) hn⟩
  · rcases g.stay p hp with h | h
    · exact k.stay p h
    · exact .inr (k.fresh h)
  · rcases k.back p hp with h | ⟨h, h1⟩
    · exact g.back p h
    · refine .inr ⟨h, ?_⟩
      rcases h1 with h1 | h1
      · exact .inl h1
      · exact .inr fun hc => h1 (g.known hc)
  · rcases g.know y hy with h | h
    · exact k.know y h
    · exact .inr (k.fresh h)
theorem nodup_by {α : Type} {f : α → Int} {g : α → Int} : ∀ {l : List α}, Rises f l → (∀ a ∈ l, ∀ b ∈ l, g a = g b → f a = f b) → (l.map g).Nodup
  | [], _, _ => List.nodup_nil
  | a :: l, h, hg => by
    rw [List.map_cons, List.nodup_cons]
    refine ⟨fun hm => ?_, nodup_by h.tail fun a ha b hb => hg a (List.mem_cons_of_mem _ ha) b (List.mem_cons_of_mem _ hb)⟩
    obtain ⟨b, hb, e⟩ := List.mem_map.1 hm
    have h1 := (List.pairwise_cons.1 h).1 b hb
    have h2 := hg b (List.mem_cons_of_mem _ hb) a (List.mem_cons_self ..) e
    omega
theorem named_nodup {id : Int} {ps : List S98} {xs : List Int} (h : VOk id ps xs) : (idsOf ps ++ xs).Nodup := by
  rw [List.nodup_append]
  refine ⟨nodup_by h.rp fun a ha b hb e => by show farI id a.f0 = farI id b.f0; rw [e], ?_, ?_⟩
  · have := nodup_by (g := fun y : Int => y) h.rx fun a ha b hb e => e
    simpa using this
  · intro a ha b hb e
    obtain ⟨p, hp, rfl⟩ := mem_idsOf.1 ha
    exact (h.x b hb).2.2 p hp e
theorem named_len {id : Int} {ps : List S98} {xs : List Int} (h : VOk id ps xs) {N : List Int} (hN : ∀ y ∈ idsOf ps ++ xs, y ∈ N) : ps.length + xs.length ≤ N.length := by
  have := nodup_le (named_nodup h) hN
  rwa [List.length_append, idsOf_len] at this
theorem grow_hear1 {H : Int → Prop} {id x : Int} {s : List S98 × List Int} (h : VOk id s.1 s.2) (hx : placeB x = true) (hn : x ≠ id) (hr : s.1.length + s.2.length < 16) (hH : H x ∨ x ∉ idsOf s.1 ++ s.2) : Grow H s (hear1 id s x) ∧ (⟨x, 0⟩ : S98) ∈ (hear1 id s x).1 := by
  obtain ⟨e1, e2⟩ := (hear_ok h hx hn).2 (.inr (.inr hr))
  unfold hear1
  rw [e1, e2]
  refine ⟨⟨fun p hp => ?_, fun p hp => ?_, fun y hy => ?_, fun y hy => (List.mem_filter.1 hy).1, fun y hy hny => ?_⟩, mem_ins.2 (.inl rfl)⟩
  · by_cases e : p.f0 = x
    · exact .inr (mem_ins.2 (.inl (by rw [e])))
    · exact .inl (mem_ins.2 (.inr ⟨hp, fun hc => e (farI_inj (h.p p hp).1 hx hc)⟩))
  · rcases mem_ins.1 hp with rfl | ⟨h1, _⟩
    · exact .inr ⟨rfl, hH⟩
    · exact .inl h1
  · by_cases e : y = x
    · exact .inr (mem_ins.2 (.inl (by rw [e])))
    · exact .inl (List.mem_filter.2 ⟨hy, by simpa using e⟩)
  · refine List.mem_filter.2 ⟨hy, ?_⟩
    have : y ≠ x := fun e => by
      rcases hH with h1 | h1
      · exact hny (e ▸ h1)
      · exact h1 (e ▸ List.mem_append_right _ hy)
    simpa using this
theorem hearMany_grow {H : Int → Prop} {id : Int} {N : List Int} (hl : N.length ≤ 8) {ids : List Int} : ∀ {s : List S98 × List Int} (_ : VOk id s.1 s.2) (_ : ∀ y ∈ idsOf s.1 ++ s.2, y ∈ N) (_ : ∀ x ∈ ids, placeB x = true ∧ x ∈ N), Grow H s (hearMany id s ids) ∧ ∀ y ∈ ids, y ≠ id → y ∈ idsOf (hearMany id s ids).1 ++ (hearMany id s ids).2 := by
  induction ids with
  | nil => exact fun _ _ _ => ⟨Grow.refl _, fun y hy => (nomatch hy)⟩
  | cons z zs ih =>
    intro s h hN hp
    have hz := hp z (List.mem_cons_self ..)
    have hr := named_len h hN
    have hstep : Grow H s (hearStep id s z) ∧ (z ≠ id → z ∈ idsOf (hearStep id s z).1 ++ (hearStep id s z).2) := by
      unfold hearStep
      split
      · rename_i hc
        refine ⟨Grow.refl _, fun hzi => ?_⟩
        simp only [Bool.or_eq_true, beq_iff_eq, memB_iff] at hc
        rcases hc with (hc | hc) | hc
        · exact absurd hc hzi
        · obtain ⟨p, h1, h2⟩ := knownB_iff.1 hc
          exact List.mem_append_left _ (mem_idsOf.2 ⟨p, h1, h2⟩)
        · exact List.mem_append_right _ hc
      · rename_i hc
        have hzi : z ≠ id := fun e => hc (by simp [e])
        have hzk : z ∉ idsOf s.1 ++ s.2 := fun hk => by
          rcases List.mem_append.1 hk with hk | hk
          · obtain ⟨p, h1, h2⟩ := mem_idsOf.1 hk
            exact hc (by rw [knownB_iff.2 ⟨p, h1, h2⟩]; simp)
          · exact hc (by rw [memB_iff.2 hk]; simp)
        obtain ⟨g, hf⟩ := grow_hear1 (H := H) h hz.1 hzi (by omega) (.inr hzk)
        exact ⟨g, fun _ => List.mem_append_left _ (mem_idsOf.2 ⟨_, hf, rfl⟩)⟩
    have hN2 : ∀ y ∈ idsOf (hearStep id s z).1 ++ (hearStep id s z).2, y ∈ N := fun y hy => by
      unfold hearStep at hy
      split at hy
      · exact hN y hy
      · rename_i hc
        rcases hear1_named h hz.1 (fun e => hc (by simp [e])) hy with h1 | h1
        · exact hN y h1
        · exact h1 ▸ hz.2
    obtain ⟨g2, k2⟩ := ih (hearStep_ok h hz.1) hN2 (fun x hx => hp x (List.mem_cons_of_mem _ hx))
    refine ⟨hstep.1.trans g2, fun y hy hyi => ?_⟩
    rcases List.mem_cons.1 hy with rfl | hy
    · exact g2.known (hstep.2 hyi)
    · exact k2 y hy hyi
def rankI (i : S48) : Int := ((i.f1.f0 * 256 + i.f1.f1) * 2 + (if i.f3 then 1 else 0)) * 256 + i.f2
theorem itemOk_iff {i : S48} : itemOk i = true ↔ (0 ≤ i.f0 ∧ i.f0 < 256) ∧ (0 ≤ i.f2 ∧ i.f2 < 256) ∧ (1 ≤ i.f1.f0 ∧ i.f1.f0 ≤ 65535) ∧ (0 ≤ i.f1.f1 ∧ i.f1.f1 < 256) ∧ (i.f3 = true → i.f2 = 0) := by
  unfold itemOk itemB verB placeB
  simp only [Bool.and_eq_true, decide_eq_true_eq, Bool.or_eq_true, Bool.not_eq_true', beq_iff_eq]
  constructor
  · rintro ⟨⟨⟨a, b⟩, c, d⟩, e⟩
    refine ⟨a, b, c, d, fun h => ?_⟩
    rcases e with e | e
    · rw [h] at e; cases e
    · exact e
  · rintro ⟨a, b, c, d, e⟩
    refine ⟨⟨⟨a, b⟩, c, d⟩, ?_⟩
    cases h : i.f3
    · exact .inl rfl
    · exact .inr (e h)
theorem better_rank {a b : S48} (ha : itemOk a = true) (hb : itemOk b = true) : betterB a b = decide (rankI b < rankI a) := by
  obtain ⟨_, a1, a2, a3, a4⟩ := itemOk_iff.1 ha
  obtain ⟨_, b1, b2, b3, b4⟩ := itemOk_iff.1 hb
  unfold betterB rankI newerB
  generalize a.f1.f0 = ac at *
  generalize a.f1.f1 = aw at *
  generalize a.f2 = av at *
  generalize a.f3 = ag at *
  generalize b.f1.f0 = bc at *
  generalize b.f1.f1 = bw at *
  generalize b.f2 = bv at *
  generalize b.f3 = bg at *
  rw [Bool.eq_iff_iff]
  cases ag <;> cases bg <;> simp only [Bool.and_eq_true, beq_iff_eq, Bool.false_eq_true, Bool.true_eq_false, if_true, if_false, reduceIte, false_implies, true_implies, forall_const, reduceCtorEq] at * <;> split <;> simp only [Bool.or_eq_true, Bool.and_eq_true, beq_iff_eq, decide_eq_true_eq, true_iff, Bool.false_eq_true, false_iff] <;> omega
theorem best_rank {a b : S48} (ha : itemOk a = true) (hb : itemOk b = true) (e : a.f0 = b.f0) : bestI a b = if rankI b < rankI a then a else b := by
  have hB : bestB a b = true := by unfold bestB; rw [ha, hb]; simpa using e
  unfold bestI
  rw [if_pos hB, better_rank ha hb]
  simp only [decide_eq_true_eq]
theorem best_ge {a b : S48} (ha : itemOk a = true) (hb : itemOk b = true) (e : a.f0 = b.f0) : rankI a ≤ rankI (bestI a b) ∧ rankI b ≤ rankI (bestI a b) := by
  rw [best_rank ha hb e]
  split <;> omega
theorem take_items {is : List S48} {i : S48} (h : storeB is = true) (hi : itemOk i = true) :
    (∀ a ∈ is, ∃ b ∈ takeL is i, b.f0 = a.f0 ∧ rankI a ≤ rankI b) ∧ (∀ b ∈ takeL is i, b ∈ is ∨ b = i) ∧
    ((is.length < 16 ∨ ∃ a ∈ is, a.f0 = i.f0) → ∃ b ∈ takeL is i, b.f0 = i.f0 ∧ rankI i ≤ rankI b) := by
  obtain ⟨h1, h2, hr⟩ := storeB_iff.1 h
  unfold takeL
  cases hg : getI is i.f0 with
  | some c =>
    obtain ⟨hc, e⟩ := (getI_some h).1 hg
    obtain ⟨p1, p2⟩ := put_in h hi hc e
    obtain ⟨k1, k2, k3⟩ := bestI_key (h2 c hc) hi e
    obtain ⟨g1, g2⟩ := best_ge (h2 c hc) hi e
    rw [if_pos (by simpa using p1), p2]
    refine ⟨fun a ha => ?_, fun b hb => ?_, fun _ => ⟨_, mem_ins.2 (.inl rfl), k1, g2⟩⟩
    · by_cases e2 : a.f0 = i.f0
      · have : a = c := rises_inj hr ha hc (by show a.f0 = c.f0; rw [e2, e])
        subst this
        exact ⟨_, mem_ins.2 (.inl rfl), by rw [k1, e2], g1⟩
      · exact ⟨a, mem_ins.2 (.inr ⟨ha, fun hk => e2 (hk.trans k1)⟩), rfl, Int.le_refl _⟩
    · rcases mem_ins.1 hb with rfl | ⟨hb, _⟩
      · rcases k3 with k3 | k3
        · exact .inl (by rw [k3]; exact hc)
        · exact .inr k3
      · exact .inl hb
  | none =>
    have hn := (getI_none h).1 hg
    obtain ⟨n1, n2⟩ := put_new h hi hn
    by_cases h16 : is.length = 16
    · rw [if_neg (by rw [n1 h16]; decide)]
      refine ⟨fun a ha => ⟨a, ha, rfl, Int.le_refl _⟩, fun b hb => .inl hb, fun hc => ?_⟩
      rcases hc with hc | ⟨a, ha, e⟩
      · omega
      · exact absurd e (hn a ha)
    · obtain ⟨p1, p2⟩ := n2 h16
      rw [if_pos (by simpa using p1), p2]
      refine ⟨fun a ha => ⟨a, mem_ins.2 (.inr ⟨ha, hn a ha⟩), rfl, Int.le_refl _⟩, fun b hb => ?_, fun _ => ⟨i, mem_ins.2 (.inl rfl), rfl, Int.le_refl _⟩⟩
      rcases mem_ins.1 hb with rfl | ⟨hb, _⟩
      · exact .inr rfl
      · exact .inl hb
theorem keys_nodup {is : List S48} (h : storeB is = true) : (is.map keyI).Nodup := nodup_by (storeB_iff.1 h).2.2 fun a _ b _ e => e
theorem keys_room {is : List S48} {Ks : List Int} (h : storeB is = true) (hk : ∀ a ∈ is, a.f0 ∈ Ks) (hl : Ks.length ≤ 16) {k : Int} (hi : k ∈ Ks) : is.length < 16 ∨ ∃ a ∈ is, a.f0 = k := by
  by_cases hc : ∃ a ∈ is, a.f0 = k
  · exact .inr hc
  · left
    have hn : (k :: is.map keyI).Nodup := List.nodup_cons.2 ⟨fun hm => by
      obtain ⟨a, ha, e⟩ := List.mem_map.1 hm
      exact hc ⟨a, ha, e⟩, keys_nodup h⟩
    have := nodup_le hn (l' := Ks) fun y hy => by
      rcases List.mem_cons.1 hy with rfl | hy
      · exact hi
      · obtain ⟨a, ha, rfl⟩ := List.mem_map.1 hy
        exact hk a ha
    rw [List.length_cons, List.length_map] at this
    omega
end Go.Proofs.YtljipbmmgcccnaaGreat.T
end
section
namespace Go.Proofs.YtljipbmmgcccnaaGreat.T
open Go.RowKit Go.Proofs.YtljipbmmgcccnaaGreatW.PrintWords Go.Proofs.YtljipbmmgcccnaaGreatW.PrintLast Go.Proofs.YtljipbmmgcccnaaGreatW.PrintMore
attribute [local go_sem] cell_tc frozen_tc max2_int min2_int
attribute [local go_sem ↓] Go.wp_at_zero Go.wp_at_succ
set_option linter.unusedVariables false
set_option linter.unusedSimpArgs false
set_option synthInstance.maxHeartbeats 400000
set_option synthInstance.maxSize 512
structure Heard (H : Int → Prop) (L : List S126) (x x' : S40) : Prop where
  ok : nodeB x' = true
  id : nid x' = nid x
  up : x'.f0 = true
  grow : Grow H (x.f1.f1, x.f1.f2) (x'.f1.f1, x'.f1.f2)
  heard : ∀ m ∈ L, m.f0 = 0 → (⟨m.f1, 0⟩ : S98) ∈ x'.f1.f1 ∧ ∀ y ∈ m.f3, y ≠ nid x → y ∈ namedN1 x'
  mono : ∀ a ∈ x.f2, ∃ b ∈ x'.f2, b.f0 = a.f0 ∧ rankI a ≤ rankI b
  orig : ∀ b ∈ x'.f2, b ∈ x.f2 ∨ ∃ m ∈ L, m.f0 = 1 ∧ m.f5 = b
  has : ∀ Ks : List Int, Ks.length ≤ 16 → (∀ a ∈ x.f2, a.f0 ∈ Ks) → (∀ m ∈ L, m.f0 = 1 → m.f5.f0 ∈ Ks) → ∀ m ∈ L, m.f0 = 1 → ∃ b ∈ x'.f2, b.f0 = m.f5.f0 ∧ rankI m.f5 ≤ rankI b
  log : (∀ m ∈ L, m.f0 ≠ 3) → x'.f3 = x.f3
theorem Heard.nil {H : Int → Prop} {x : S40} (h : nodeB x = true) (hu : x.f0 = true) : Heard H [] x x :=
  ⟨h, rfl, hu, Grow.refl _, fun m hm => (nomatch hm), fun a ha => ⟨a, ha, rfl, Int.le_refl _⟩, fun b hb => .inl hb, fun _ _ _ _ m hm => (nomatch hm), fun _ => rfl⟩
theorem hand_view {x : S40} {m : S126} (h : nodeB x = true) (hm : msgB m = true) (hto : m.f2 = nid x) (k : m.f0 = 0) : (handN x m).f1 = ⟨x.f1.f0, (takeS x.f1 m.f1 m.f3).1, (takeS x.f1 m.f1 m.f3).2⟩ := by
  have ht := hello_take h hm hto k
  unfold handN
  rw [if_pos k]
  show takeV x.f1 m.f1 m.f3 = _
  unfold takeV
  rw [if_pos ht]
theorem hand_heard {H : Int → Prop} {N : List Int} {x : S40} {m : S126} (hl : N.length ≤ 8) (h : nodeB x = true) (hu : x.f0 = true) (hN : ∀ y ∈ namedN1 x, y ∈ N) (hm : msgB m = true) (hto : m.f2 = nid x) (hmN : ∀ y ∈ namedM1 m, y ∈ N) (hH : m.f0 = 0 → H m.f1) : Heard H [m] x (handN x m) := by
  obtain ⟨q1, q2, q3, q4⟩ := handN_ok h hu hm hto
  obtain ⟨hk, p1, p2, p3, hit⟩ := msgB_kind hm
  obtain ⟨_, h2, h3, h4, h5⟩ := nodeB_iff.1 h
  have hone : ∀ {p : S126 → Prop}, (∀ o ∈ [m], p o) ↔ p m := by simp
  by_cases k : m.f0 = 0
  · have ht := hello_take h hm hto k
    obtain ⟨_, t1, t2, _, t4⟩ := takeB_iff.1 ht
    have hv := hand_view h hm hto k
    have hr := named_len h2 hN
    obtain ⟨g1, f1⟩ := grow_hear1 (H := H) (s := (x.f1.f1, x.f1.f2)) h2 t1 t2 (by show x.f1.f1.length + x.f1.f2.length < 16; omega) (.inl (hH k))
    have hok1 := (hear_ok h2 t1 t2).1
    have hN1 : ∀ y ∈ idsOf (hear1 x.f1.f0 (x.f1.f1, x.f1.f2) m.f1).1 ++ (hear1 x.f1.f0 (x.f1.f1, x.f1.f2) m.f1).2, y ∈ N := fun y hy => by
      rcases hear1_named (s := (x.f1.f1, x.f1.f2)) h2 t1 t2 hy with h7 | h7
      · exact hN y h7
      · exact h7 ▸ hmN _ (by simp [namedM1])
    obtain ⟨g2, k2⟩ := hearMany_grow (H := H) hl (ids := m.f3) (s := hear1 x.f1.f0 (x.f1.f1, x.f1.f2) m.f1) hok1 hN1 (fun y hy => ⟨t4 y hy, hmN y (by simp [namedM1, hy])⟩)
    have e2 : (handN x m).f2 = x.f2 := by unfold handN; rw [if_pos k]
    have e3 : (handN x m).f3 = x.f3 := by unfold handN; rw [if_pos k]
    refine ⟨q1, q2, q3, ?_, ?_, ?_, ?_, ?_, fun _ => e3⟩
    · rw [hv]; exact g1.trans g2
    · rw [hone]
      intro _
      unfold namedN1
      rw [hv]
      exact ⟨g2.fresh f1, fun y hy hn => k2 y hy hn⟩
    · rw [e2]; exact fun a ha => ⟨a, ha, rfl, Int.le_refl _⟩
    · rw [e2]; exact fun b hb => .inl hb
    · intro _ _ _ _
      rw [hone]
      intro k1; omega
  · have hview : (handN x m).f1 = x.f1 := by
      unfold handN
      rw [if_neg k]
      split
      · rfl
      · split <;> rfl
    have hgrow : Grow H (x.f1.f1, x.f1.f2) ((handN x m).f1.f1, (handN x m).f1.f2) := by rw [hview]; exact Grow.refl _
    by_cases k1 : m.f0 = 1
    · have hi := hit k1
      have e2 : (handN x m).f2 = takeL x.f2 m.f5 := by unfold handN; rw [if_neg k, if_pos k1]
      have e3 : (handN x m).f3 = x.f3 := by unfold handN; rw [if_neg k, if_pos k1]
      obtain ⟨i1, i2, i3⟩ := take_items h3 hi
      refine ⟨q1, q2, q3, hgrow, fun o ho k0 => absurd (List.mem_singleton.1 ho ▸ k0) k, ?_, ?_, ?_, fun _ => e3⟩
      · rw [e2]; exact i1
      · rw [e2]
        intro b hb
        rcases i2 b hb with hb | hb
        · exact .inl hb
        · exact .inr ⟨m, List.mem_singleton.2 rfl, k1, hb.symm⟩
      · intro Ks hKl hKx hKm
        rw [hone] at hKm ⊢
        intro _
        rw [e2]
        exact i3 (keys_room h3 hKx hKl (hKm k1))
    · have e2 : (handN x m).f2 = x.f2 := by
        unfold handN
        rw [if_neg k, if_neg k1]
        split <;> rfl
      refine ⟨q1, q2, q3, hgrow, fun o ho k0 => absurd (List.mem_singleton.1 ho ▸ k0) k, ?_, ?_, ?_, fun hn => ?_⟩
      · rw [e2]; exact fun a ha => ⟨a, ha, rfl, Int.le_refl _⟩
      · rw [e2]; exact fun b hb => .inl hb
      · intro _ _ _ _
        rw [hone]
        intro k2; exact absurd k2 k1
      · rw [hone] at hn
        unfold handN
        rw [if_neg k, if_neg k1]
        split
        · rfl
        · omega
theorem Heard.trans {H : Int → Prop} {L K : List S126} {x y z : S40} (h : Heard H L x y) (k : Heard H K y z) : Heard H (L ++ K) x z := by
  refine ⟨k.ok, k.id.trans h.id, k.up, h.grow.trans k.grow, fun m hm k0 => ?_, fun a ha => ?_, fun b hb => ?_, fun Ks h1 h2 h3 m hm k1 => ?_, fun hn => ?_⟩
  · rcases List.mem_append.1 hm with hm | hm
    · obtain ⟨a, b⟩ := h.heard m hm k0
      exact ⟨k.grow.fresh a, fun y hy hn => k.grow.known (b y hy hn)⟩
    · obtain ⟨a, b⟩ := k.heard m hm k0
      exact ⟨a, fun y hy hn => b y hy (h.id ▸ hn)⟩
  · obtain ⟨b, hb, e, r⟩ := h.mono a ha
    obtain ⟨c, hc, e2, r2⟩ := k.mono b hb
    exact ⟨c, hc, e2.trans e, Int.le_trans r r2⟩
  · rcases k.orig b hb with hb | ⟨m, hm, e⟩
    · rcases h.orig b hb with hb | ⟨m, hm, e⟩
      · exact .inl hb
      · exact .inr ⟨m, List.mem_append_left _ hm, e⟩
    · exact .inr ⟨m, List.mem_append_right _ hm, e⟩
  · have hKy : ∀ a ∈ y.f2, a.f0 ∈ Ks := fun a ha => by
      rcases h.orig a ha with ha | ⟨o, ho, e1, e2⟩
      · exact h2 a ha
      · exact e2 ▸ h3 o (List.mem_append_left _ ho) e1
    rcases List.mem_append.1 hm with hm | hm
    · obtain ⟨b, hb, e, r⟩ := h.has Ks h1 h2 (fun o ho => h3 o (List.mem_append_left _ ho)) m hm k1
      obtain ⟨c, hc, e2, r2⟩ := k.mono b hb
      exact ⟨c, hc, e2.trans e, Int.le_trans r r2⟩
    · exact k.has Ks h1 hKy (fun o ho => h3 o (List.mem_append_right _ ho)) m hm k1
  · rw [k.log fun m hm => hn m (List.mem_append_right _ hm), h.log fun m hm => hn m (List.mem_append_left _ hm)]
theorem heard_fold {H : Int → Prop} {N : List Int} (hl : N.length ≤ 8) : ∀ {L : List S126} {x : S40} (_ : nodeB x = true) (_ : x.f0 = true) (_ : ∀ y ∈ namedN1 x, y ∈ N) (_ : ∀ m ∈ L, msgB m = true ∧ m.f2 = nid x ∧ ∀ y ∈ namedM1 m, y ∈ N) (_ : ∀ m ∈ L, m.f0 = 0 → H m.f1), Heard H L x (L.foldl handN x)
  | [], x, h, hu, _, _, _ => Heard.nil h hu
  | m :: L, x, h, hu, hN, hL, hH => by
    obtain ⟨m1, m2, m3⟩ := hL m (List.mem_cons_self ..)
    have h1 := hand_heard (H := H) hl h hu hN m1 m2 m3 (hH m (List.mem_cons_self ..))
    obtain ⟨_, q2, _, q4⟩ := handN_ok h hu m1 m2
    have hN2 : ∀ y ∈ namedN1 (handN x m), y ∈ N := fun y hy => by
      rcases q4 y hy with h5 | h5 | h5
      · exact hN y h5
      · exact m3 y (by simp [namedM1, h5])
      · exact m3 y (by simp [namedM1, h5])
    exact h1.trans (heard_fold hl h1.ok h1.up hN2 (fun o ho => by
      obtain ⟨a, b, c⟩ := hL o (List.mem_cons_of_mem _ ho)
      exact ⟨a, b.trans q2.symm, c⟩) (fun o ho => hH o (List.mem_cons_of_mem _ ho)))
end Go.Proofs.YtljipbmmgcccnaaGreat.T
end
section
namespace Go.Proofs.YtljipbmmgcccnaaGreat.T
open Go.RowKit Go.Proofs.YtljipbmmgcccnaaGreatW.PrintWords Go.Proofs.YtljipbmmgcccnaaGreatW.PrintLast Go.Proofs.YtljipbmmgcccnaaGreatW.PrintMore
attribute [local go_sem] cell_tc frozen_tc max2_int min2_int
attribute [local go_sem ↓] Go.wp_at_zero Go.wp_at_succ
set_option linter.unusedVariables false
set_option linter.unusedSimpArgs false
set_option synthInstance.maxHeartbeats 400000
set_option synthInstance.maxSize 512
def asks (ms : List S126) : Nat := ms.countP fun m => m.f0 == 2
theorem asks_le (ms : List S126) : asks ms ≤ ms.length := List.countP_le_length
theorem asks_pos {ms : List S126} : 0 < asks ms ↔ ∃ m ∈ ms, m.f0 = 2 := by
  unfold asks
  rw [List.countP_pos_iff]
  simp
theorem sendQ_all {ps ms : List S126} (h : ps.length + ms.length ≤ 512) : sendQ ps ms = ps ++ ms := by
  unfold sendQ
  rw [List.take_of_length_le (by omega)]
theorem node_idx {ns : List S40} (h : nodesB ns = true) {i j : Nat} {x y : S40} (hx : ns[i]? = some x) (hy : ns[j]? = some y) (e : nid x = nid y) : i = j := by
  obtain ⟨hi, rfl⟩ := List.getElem?_eq_some_iff.1 hx
  obtain ⟨hj, rfl⟩ := List.getElem?_eq_some_iff.1 hy
  have hr := (nodesB_iff.1 h).2.2.2
  rcases Nat.lt_trichotomy i j with h1 | h1 | h1
  · have := List.pairwise_iff_getElem.1 hr i j hi hj h1
    omega
  · exact h1
  · have := List.pairwise_iff_getElem.1 hr j i hj hi h1
    omega
theorem node_eq {ns : List S40} (h : nodesB ns = true) {x y : S40} (hx : x ∈ ns) (hy : y ∈ ns) (e : nid x = nid y) : x = y := rises_inj (nodesB_iff.1 h).2.2.2 hx hy e
theorem deliver_cons {ns : List S40} {m : S126} {ms : List S126} (h : OkW (ns, m :: ms)) : ∃ x, ns[placeN ns m.f2]? = some x ∧ nid x = m.f2 ∧ deliverW (ns, m :: ms) 0 = if x.f0 = true then (ns.set (placeN ns m.f2) (handN x m), ms ++ handM x m) else (ns, ms) := by
  obtain ⟨x, hx, e⟩ := place_some h (msg_node h (List.mem_cons_self ..))
  refine ⟨x, hx, e, ?_⟩
  have hm := queueB_msg (mayB_iff.1 h).2.1 (List.mem_cons_self ..)
  have h512 := (queueB_iff.1 (mayB_iff.1 h).2.1).1
  rw [List.length_cons] at h512
  have h1 := (handM_ok (h.node hx).1 hm e.symm).1
  unfold deliverW
  have e0 : 0 % (ns, m :: ms).2.length = 0 := Nat.zero_mod _
  rw [e0]
  show hearW (ns, m :: ms) ((m :: ms).eraseIdx 0) m = _
  unfold hearW
  simp only at hx ⊢
  rw [hx]
  simp only [List.eraseIdx_cons_zero]
  rw [sendQ_all (by omega)]
theorem handM_kind {x : S40} {m o : S126} (h : o ∈ handM x m) : o.f0 = 3 ∧ m.f0 = 2 := by
  unfold handM at h
  split at h
  · rename_i k
    rw [List.mem_singleton.1 h]
    exact ⟨rfl, k⟩
  · cases h
theorem asks_hand (x : S40) (m : S126) (ms : List S126) : asks (ms ++ handM x m) = asks ms := by
  unfold asks
  rw [List.countP_append]
  have : (handM x m).countP (fun m => m.f0 == 2) = 0 := List.countP_eq_zero.2 fun o ho => by
    have := (handM_kind ho).1
    simp [this]
  omega
theorem deliver_fold : ∀ (n : Nat) {s : WS}, OkW s → s.2.length + asks s.2 ≤ n → (deliverAll n s).2 = [] ∧ (deliverAll n s).1.map nid = s.1.map nid ∧ ∀ (i : Nat) (x : S40), s.1[i]? = some x → (x.f0 = false → (deliverAll n s).1[i]? = some x) ∧ (x.f0 = true → ∃ L : List S126, (deliverAll n s).1[i]? = some (L.foldl handN x) ∧ (∀ m ∈ L, msgB m = true ∧ m.f2 = nid x ∧ (∀ y ∈ namedM1 m, y ∈ s.1.map nid) ∧ (m ∈ s.2 ∨ (m.f0 = 3 ∧ 0 < asks s.2))) ∧ ∀ m ∈ s.2, m.f2 = nid x → m ∈ L)
  | n, (ns, []), h, hn => by
    rw [deliverAll_nil n rfl]
    exact ⟨rfl, rfl, fun i x hx => ⟨fun _ => hx, fun _ => ⟨[], hx, fun m hm => (nomatch hm), fun m hm => (nomatch hm)⟩⟩⟩
  | 0, (ns, m :: ms), h, hn => by simp at hn
  | n + 1, (ns, m :: ms), h, hn => by
    rw [deliverAll_next n (s := (ns, m :: ms)) (Nat.succ_pos _)]
    have hok := deliverW_ok h 0
    obtain ⟨y, hy, ey, e⟩ := deliver_cons h
    have hns := (mayB_iff.1 h).1
    have hm := queueB_msg (mayB_iff.1 h).2.1 (List.mem_cons_self ..)
    have hmN : ∀ z ∈ namedM1 m, z ∈ ns.map nid := fun z hz => isNode_map.1 ((mayB_iff.1 h).2.2.2 m (List.mem_cons_self ..) z hz)
    have hask : asks (m :: ms) = asks ms + if m.f0 = 2 then 1 else 0 := by
      unfold asks
      rw [List.countP_cons]
      simp
    have hne : ∀ {i : Nat} {x : S40}, ns[i]? = some x → m.f2 = nid x → i = placeN ns m.f2 ∧ x = y := fun {i x} hx hq => by
      have hi := node_idx hns hx hy (hq.symm.trans ey.symm)
      refine ⟨hi, ?_⟩
      rw [hi] at hx
      exact Option.some.inj (hx.symm.trans hy)
    simp only [List.length_cons] at hn
    by_cases hu : y.f0 = true
    · rw [if_pos hu] at e
      rw [e] at hok ⊢
      have hlen : (handM y m).length ≤ if m.f0 = 2 then 1 else 0 := by
        unfold handM
        split <;> exact Nat.le_refl _
      obtain ⟨d1, d2, d3⟩ := deliver_fold n hok (by
        simp only
        rw [asks_hand, List.length_append]
        rw [hask] at hn
        split at hlen <;> simp_all <;> omega)
      obtain ⟨q1, q2, q3, q4⟩ := handN_ok (h.node hy).1 hu hm ey.symm
      have hmap : (ns.set (placeN ns m.f2) (handN y m)).map nid = ns.map nid := set_map hy q2
      refine ⟨d1, d2.trans hmap, fun i x hx => ?_⟩
      simp only at hx d3 hmap
      simp only [hmap] at d3
      have hmem : ∀ {o : S126} {p : Prop}, (o ∈ ms ++ handM y m ∨ (o.f0 = 3 ∧ 0 < asks (ms ++ handM y m))) → (o ∈ m :: ms ∨ (o.f0 = 3 ∧ 0 < asks (m :: ms))) := fun {o p} ho => by
        rcases ho with ho | ⟨h1, h2⟩
        · rcases List.mem_append.1 ho with ho | ho
          · exact .inl (List.mem_cons_of_mem _ ho)
          · obtain ⟨k1, k2⟩ := handM_kind ho
            exact .inr ⟨k1, asks_pos.2 ⟨m, List.mem_cons_self .., k2⟩⟩
        · rw [asks_hand] at h2
          exact .inr ⟨h1, by rw [hask]; omega⟩
      by_cases hi : i = placeN ns m.f2
      · subst hi
        obtain rfl : x = y := Option.some.inj (hx.symm.trans hy)
        have hlt := (List.getElem?_eq_some_iff.1 hx).1
        obtain ⟨_, f2⟩ := d3 (placeN ns m.f2) (handN x m) (by rw [List.getElem?_set]; simp [hlt])
        obtain ⟨L, l1, l2, l3⟩ := f2 q3
        refine ⟨fun hf => absurd hf (by simp [hu]), fun _ => ⟨m :: L, l1, fun o ho => ?_, fun o ho eo => ?_⟩⟩
        · rcases List.mem_cons.1 ho with rfl | ho
          · exact ⟨hm, ey.symm, hmN, .inl (List.mem_cons_self ..)⟩
          · obtain ⟨a1, a2, a3, a4⟩ := l2 o ho
            exact ⟨a1, a2.trans q2, a3, hmem (p := True) a4⟩
        · rcases List.mem_cons.1 ho with rfl | ho
          · exact List.mem_cons_self ..
          · exact List.mem_cons_of_mem _ (l3 o (List.mem_append_left _ ho) (eo.trans q2.symm))
      · obtain ⟨f1, f2⟩ := d3 i x (by rw [List.getElem?_set]; rw [if_neg fun e => hi e.symm]; exact hx)
        refine ⟨f1, fun hxu => ?_⟩
        obtain ⟨L, l1, l2, l3⟩ := f2 hxu
        refine ⟨L, l1, fun o ho => ?_, fun o ho eo => ?_⟩
        · obtain ⟨a1, a2, a3, a4⟩ := l2 o ho
          exact ⟨a1, a2, a3, hmem (p := True) a4⟩
        · rcases List.mem_cons.1 ho with rfl | ho
          · exact absurd (hne hx eo).1 hi
          · exact l3 o (List.mem_append_left _ ho) eo
    · rw [if_neg hu] at e
      rw [e] at hok ⊢
      obtain ⟨d1, d2, d3⟩ := deliver_fold n hok (by simp only; rw [hask] at hn; omega)
      refine ⟨d1, d2, fun i x hx => ?_⟩
      obtain ⟨f1, f2⟩ := d3 i x hx
      refine ⟨f1, fun hxu => ?_⟩
      obtain ⟨L, l1, l2, l3⟩ := f2 hxu
      refine ⟨L, l1, fun o ho => ?_, fun o ho eo => ?_⟩
      · obtain ⟨a1, a2, a3, a4⟩ := l2 o ho
        refine ⟨a1, a2, a3, ?_⟩
        rcases a4 with a4 | ⟨b1, b2⟩
        · exact .inl (List.mem_cons_of_mem _ a4)
        · exact .inr ⟨b1, by rw [hask]; simp only at b2; omega⟩
      · rcases List.mem_cons.1 ho with rfl | ho
        · obtain ⟨_, rfl⟩ := hne hx eo
          exact absurd hxu hu
        · exact l3 o ho eo
theorem deliver_heard (n : Nat) {s : WS} (h : OkW s) (hn : s.2.length + asks s.2 ≤ n) {i : Nat} {x : S40} (hx : s.1[i]? = some x) (hu : x.f0 = true) :
    ∃ (L : List S126) (x' : S40), (deliverAll n s).1[i]? = some x' ∧ Heard (fun y => ∃ m ∈ s.2, m.f0 = 0 ∧ m.f1 = y) L x x' ∧ x' = L.foldl handN x ∧ (∀ m ∈ L, m.f2 = nid x ∧ (m ∈ s.2 ∨ (m.f0 = 3 ∧ 0 < asks s.2))) ∧ ∀ m ∈ s.2, m.f2 = nid x → m ∈ L := by
  obtain ⟨_, _, d3⟩ := deliver_fold n h hn
  obtain ⟨L, l1, l2, l3⟩ := (d3 i x hx).2 hu
  obtain ⟨h1, h2, h3⟩ := h.node hx
  refine ⟨L, _, l1, heard_fold (N := s.1.map nid) (by rw [List.length_map]; exact (nodesB_iff.1 (mayB_iff.1 h).1).2.1) h1 hu (fun y hy => isNode_map.1 (h3 y hy)) (fun m hm => ⟨(l2 m hm).1, (l2 m hm).2.1, (l2 m hm).2.2.1⟩) (fun m hm k => ?_), rfl, fun m hm => ⟨(l2 m hm).2.1, (l2 m hm).2.2.2⟩, l3⟩
  rcases (l2 m hm).2.2.2 with h4 | ⟨h4, _⟩
  · exact ⟨m, h4, k, rfl⟩
  · omega
def tkN (x : S40) : S40 := if x.f0 = true then stepN x else x
def tkM (x : S40) : List S126 := if x.f0 = true then stepM x else []
theorem tkN_id (x : S40) : nid (tkN x) = nid x := by unfold tkN; split <;> rfl
theorem tkM_len {x : S40} (h : nodeB x = true) : (tkM x).length ≤ 48 := by
  unfold tkM
  split
  · exact (stepM_ok h).1
  · exact Nat.zero_le _
theorem flat_msgs {f : S40 → List S126} {b : Nat} : ∀ {l : List S40}, (∀ x ∈ l, (f x).length ≤ b) → (l.flatMap f).length ≤ b * l.length
  | [], _ => Nat.zero_le _
  | x :: l, h => by
    have h1 := h x (List.mem_cons_self ..)
    have h2 := flat_msgs (l := l) fun y hy => h y (List.mem_cons_of_mem _ hy)
    rw [List.flatMap_cons, List.length_append, List.length_cons, Nat.mul_succ]
    omega
theorem tickTo_eq {ns : List S40} (h : OkW (ns, [])) : ∀ i, i ≤ ns.length → (∀ j : Nat, (tickTo i (ns, [])).1[j]? = if j < i then ns[j]?.map tkN else ns[j]?) ∧ (tickTo i (ns, [])).2 = (ns.take i).flatMap tkM
  | 0, _ => ⟨fun j => by simp [tickTo], by simp [tickTo]⟩
  | i + 1, hi => by
    obtain ⟨i1, i2⟩ := tickTo_eq h i (by omega)
    have hok := tickTo_ok h i
    have hb := (nodesB_iff.1 (mayB_iff.1 h).1)
    have hx : (tickTo i (ns, [])).1[i]? = some ns[i] := by
      rw [i1, if_neg (Nat.lt_irrefl i)]
      exact List.getElem?_eq_getElem (by omega)
    have hlen : (tickTo i (ns, [])).1.length = ns.length := tickTo_len _ _
    have hg : (tickTo i (ns, [])).1.getD i z40 = ns[i] := by
      rw [List.getD_eq_getElem?_getD, hx]
      rfl
    have hp : placeN (tickTo i (ns, [])).1 (nid ns[i]) = i := by
      obtain ⟨y, hy, e⟩ := place_some hok (isNode_iff.2 ⟨_, List.mem_of_getElem? hx, rfl⟩)
      exact node_idx (mayB_iff.1 hok).1 hy hx e
    have h48 : ∀ x ∈ ns.take (i + 1), (tkM x).length ≤ 48 := fun x hx => tkM_len (hb.2.2.1 x (List.mem_of_mem_take hx))
    have hq := flat_msgs h48
    rw [List.length_take] at hq
    have h8 : ns.length ≤ 8 := hb.2.1
    have hsplit : (ns.take (i + 1)).flatMap tkM = (ns.take i).flatMap tkM ++ tkM ns[i] := by
      rw [List.take_succ_eq_append_getElem (by omega), List.flatMap_append]
      simp
    show (∀ j, (tickW (tickTo i (ns, [])) (nid ((tickTo i (ns, [])).1.getD i z40))).1[j]? = _) ∧ (tickW (tickTo i (ns, [])) (nid ((tickTo i (ns, [])).1.getD i z40))).2 = _
    rw [hg]
    unfold tickW
    rw [hp, hx]
    simp only
    by_cases hu : ns[i].f0 = true
    · rw [if_pos hu]
      refine ⟨fun j => ?_, ?_⟩
      · simp only [List.getElem?_set]
        by_cases hj : i = j
        · subst hj
          rw [if_pos rfl, hlen, if_pos (by omega), if_pos (Nat.lt_succ_self i), List.getElem?_eq_getElem (by omega)]
          show some (stepN ns[i]) = some (tkN ns[i])
          unfold tkN
          rw [if_pos hu]
        · rw [if_neg hj, i1]
          by_cases h2 : j < i
          · rw [if_pos h2, if_pos (by omega)]
          · rw [if_neg h2, if_neg (by omega)]
      · have htk : tkM ns[i] = stepM ns[i] := by unfold tkM; rw [if_pos hu]
        simp only
        rw [hsplit, i2, ← htk]
        refine sendQ_all ?_
        rw [hsplit, List.length_append] at hq
        have hmin : min (i + 1) ns.length ≤ 8 := by omega
        have := Nat.mul_le_mul_left 48 hmin
        omega
    · rw [if_neg hu]
      refine ⟨fun j => ?_, ?_⟩
      · rw [i1]
        by_cases hj : j = i
        · subst hj
          rw [if_neg (Nat.lt_irrefl j), if_pos (Nat.lt_succ_self j), List.getElem?_eq_getElem (by omega)]
          show some ns[j] = some (tkN ns[j])
          unfold tkN
          rw [if_neg hu]
        · by_cases h2 : j < i
          · rw [if_pos h2, if_pos (by omega)]
          · rw [if_neg h2, if_neg (by omega)]
      · rw [hsplit, i2]
        have : tkM ns[i] = [] := by unfold tkM; rw [if_neg hu]
        rw [this, List.append_nil]
theorem tickAll_eq {ns : List S40} (h : OkW (ns, [])) : (∀ j : Nat, (tickAll (ns, [])).1[j]? = ns[j]?.map tkN) ∧ (tickAll (ns, [])).2 = ns.flatMap tkM := by
  obtain ⟨h1, h2⟩ := tickTo_eq h ns.length (Nat.le_refl _)
  refine ⟨fun j => ?_, ?_⟩
  · unfold tickAll
    rw [h1]
    by_cases hj : j < ns.length
    · rw [if_pos hj]
    · rw [if_neg hj, List.getElem?_eq_none (by omega)]
      rfl
  · unfold tickAll
    rw [h2]
    simp
theorem stepM_kind {x : S40} {m : S126} (h : m ∈ stepM x) : m.f0 = 0 ∨ m.f0 = 1 := by
  unfold stepM stepH shareL at h
  rcases List.mem_append.1 h with h | h
  · obtain ⟨d, _, rfl⟩ := List.mem_map.1 h
    exact .inl rfl
  · obtain ⟨i, _, e⟩ := List.mem_filterMap.1 h
    unfold shareM at e
    split at e
    · cases e
    · rw [← Option.some.inj e]
      exact .inr rfl
theorem tkM_mem {ns : List S40} {m : S126} : m ∈ ns.flatMap tkM ↔ ∃ z ∈ ns, z.f0 = true ∧ m ∈ stepM z := by
  rw [List.mem_flatMap]
  constructor
  · rintro ⟨z, hz, h⟩
    unfold tkM at h
    split at h
    · rename_i hu
      exact ⟨z, hz, hu, h⟩
    · cases h
  · rintro ⟨z, hz, hu, h⟩
    exact ⟨z, hz, by unfold tkM; rw [if_pos hu]; exact h⟩
theorem round_law {ns : List S40} (h : OkW (ns, [])) : (roundW (ns, [])).2 = [] ∧ (roundW (ns, [])).1.map nid = ns.map nid ∧ ∀ (i : Nat) (x : S40), ns[i]? = some x → (x.f0 = false → (roundW (ns, [])).1[i]? = some x) ∧ (x.f0 = true → ∃ (L : List S126) (x' : S40), (roundW (ns, [])).1[i]? = some x' ∧ Heard (fun y => ∃ z ∈ ns, z.f0 = true ∧ nid z = y) L (stepN x) x' ∧ (∀ m ∈ L, ∃ z ∈ ns, z.f0 = true ∧ m ∈ stepM z ∧ m.f2 = nid x) ∧ ∀ z ∈ ns, z.f0 = true → ∀ m ∈ stepM z, m.f2 = nid x → m ∈ L) := by
  obtain ⟨t1, t2⟩ := tickAll_eq h
  have hr : roundW (ns, []) = deliverAll 1024 (tickAll (ns, [])) := by unfold roundW; rw [deliverAll_nil 1024 (s := (ns, [])) rfl]
  have hok : OkW (tickAll (ns, [])) := tickTo_ok h _
  have hb := nodesB_iff.1 (mayB_iff.1 h).1
  have hno : asks (tickAll (ns, [])).2 = 0 := by
    rw [← Nat.le_zero, ← Nat.not_lt, asks_pos]
    rintro ⟨m, hm, k⟩
    rw [t2, tkM_mem] at hm
    obtain ⟨z, _, _, hm⟩ := hm
    rcases stepM_kind hm with k2 | k2 <;> omega
  have h512 := (queueB_iff.1 (mayB_iff.1 hok).2.1).1
  have hn : (tickAll (ns, [])).2.length + asks (tickAll (ns, [])).2 ≤ 1024 := by omega
  have hmap : (tickAll (ns, [])).1.map nid = ns.map nid := by
    apply List.ext_getElem?
    intro j
    rw [List.getElem?_map, t1, List.getElem?_map]
    cases ns[j]? with
    | none => rfl
    | some x => exact congrArg some (tkN_id x)
  rw [hr]
  obtain ⟨d1, d2, d3⟩ := deliver_fold 1024 hok hn
  refine ⟨d1, d2.trans hmap, fun i x hx => ?_⟩
  have hti : (tickAll (ns, [])).1[i]? = some (tkN x) := by rw [t1, hx]; rfl
  refine ⟨fun hu => ?_, fun hu => ?_⟩
  · have e : tkN x = x := by unfold tkN; rw [if_neg (by simp [hu])]
    rw [e] at hti
    exact (d3 i x hti).1 hu
  · have e : tkN x = stepN x := by unfold tkN; rw [if_pos hu]
    rw [e] at hti
    obtain ⟨L, x', l1, l2, _, l4, l5⟩ := deliver_heard 1024 hok hn hti hu
    have hH : ∀ y : Int, (∃ m ∈ (tickAll (ns, [])).2, m.f0 = 0 ∧ m.f1 = y) → ∃ z ∈ ns, z.f0 = true ∧ nid z = y := by
      rintro y ⟨m, hm, _, rfl⟩
      rw [t2, tkM_mem] at hm
      obtain ⟨z, hz, hzu, hm⟩ := hm
      exact ⟨z, hz, hzu, ((stepM_ok (hb.2.2.1 z hz)).2 m hm).2.1.symm⟩
    refine ⟨L, x', l1, ⟨l2.ok, l2.id, l2.up, ⟨l2.grow.stay, fun p hp => ?_, l2.grow.know, l2.grow.pass, fun y hy hn => l2.grow.keep y hy fun hc => hn (hH y hc)⟩, l2.heard, l2.mono, l2.orig, l2.has, l2.log⟩, fun m hm => ?_, fun z hz hzu m hm em => l5 m (by rw [t2]; exact tkM_mem.2 ⟨z, hz, hzu, hm⟩) em⟩
    · rcases l2.grow.back p hp with h1 | ⟨h1, h2 | h2⟩
      · exact .inl h1
      · exact .inr ⟨h1, .inl (hH _ h2)⟩
      · exact .inr ⟨h1, .inr h2⟩
    · obtain ⟨a1, a2⟩ := l4 m hm
      rcases a2 with a2 | ⟨_, a2⟩
      · rw [t2, tkM_mem] at a2
        obtain ⟨z, hz, hzu, hm⟩ := a2
        exact ⟨z, hz, hzu, hm, a1⟩
      · omega
theorem round_first {s : WS} (h : OkW s) : (deliverAll 1024 s).2 = [] ∧ OkW (deliverAll 1024 s) ∧ roundW s = roundW (deliverAll 1024 s) := by
  have h512 := (queueB_iff.1 (mayB_iff.1 h).2.1).1
  have := asks_le s.2
  obtain ⟨d1, _, _⟩ := deliver_fold 1024 h (by omega)
  refine ⟨d1, deliverAll_ok _ h, ?_⟩
  unfold roundW
  rw [deliverAll_nil 1024 (s := deliverAll 1024 s) (by rw [d1]; rfl)]
end Go.Proofs.YtljipbmmgcccnaaGreat.T
end
section
namespace Go.Proofs.YtljipbmmgcccnaaGreat.T
open Go.RowKit Go.Proofs.YtljipbmmgcccnaaGreatW.PrintWords Go.Proofs.YtljipbmmgcccnaaGreatW.PrintLast Go.Proofs.YtljipbmmgcccnaaGreatW.PrintMore
attribute [local go_sem] cell_tc frozen_tc max2_int min2_int
attribute [local go_sem ↓] Go.wp_at_zero Go.wp_at_succ
set_option linter.unusedVariables false
set_option linter.unusedSimpArgs false
set_option synthInstance.maxHeartbeats 400000
set_option synthInstance.maxSize 512
def Kn (ns : List S40) (a b : Int) : Prop := ∃ x ∈ ns, x.f0 = true ∧ nid x = a ∧ b ∈ namedN1 x
def Fh (ns : List S40) (a b : Int) : Prop := ∃ x ∈ ns, x.f0 = true ∧ nid x = a ∧ (⟨b, 0⟩ : S98) ∈ x.f1.f1
def Ac (ns : List S40) (a b : Int) : Prop := ∃ x ∈ ns, x.f0 = true ∧ nid x = a ∧ ∃ p ∈ x.f1.f1, p.f0 = b ∧ p.f1 ≤ 1
def Up (ns : List S40) (a : Int) : Prop := ∃ x ∈ ns, x.f0 = true ∧ nid x = a
theorem Fh.kn {ns : List S40} {a b : Int} : Fh ns a b → Kn ns a b
  | ⟨x, h1, h2, h3, h4⟩ => ⟨x, h1, h2, h3, List.mem_append_left _ (mem_idsOf.2 ⟨_, h4, rfl⟩)⟩
theorem Fh.ac {ns : List S40} {a b : Int} : Fh ns a b → Ac ns a b
  | ⟨x, h1, h2, h3, h4⟩ => ⟨x, h1, h2, h3, _, h4, rfl, by show (0 : Int) ≤ 1; decide⟩
theorem Ac.kn {ns : List S40} {a b : Int} : Ac ns a b → Kn ns a b
  | ⟨x, h1, h2, h3, p, h4, h5, _⟩ => ⟨x, h1, h2, h3, List.mem_append_left _ (mem_idsOf.2 ⟨p, h4, h5⟩)⟩
abbrev Calm (ns : List S40) : Prop := OkW (ns, [])
def nextN (ns : List S40) : List S40 := (roundW (ns, [])).1
theorem next_eq {ns : List S40} (h : Calm ns) : roundW (ns, []) = (nextN ns, []) := by
  exact Prod.ext rfl (round_law h).1
theorem next_calm {ns : List S40} (h : Calm ns) : Calm (nextN ns) := by
  have := roundW_ok h
  rwa [next_eq h] at this
theorem next_of {ns : List S40} (h : Calm ns) {x : S40} (hx : x ∈ ns) (hu : x.f0 = true) : ∃ (L : List S126) (x' : S40), x' ∈ nextN ns ∧ Heard (fun y => ∃ z ∈ ns, z.f0 = true ∧ nid z = y) L (stepN x) x' ∧ (∀ m ∈ L, ∃ z ∈ ns, z.f0 = true ∧ m ∈ stepM z ∧ m.f2 = nid x) ∧ ∀ z ∈ ns, z.f0 = true → ∀ m ∈ stepM z, m.f2 = nid x → m ∈ L := by
  obtain ⟨i, hi, rfl⟩ := List.getElem_of_mem hx
  obtain ⟨_, _, h3⟩ := round_law h
  obtain ⟨L, x', h4, h5⟩ := (h3 i _ (List.getElem?_eq_getElem hi)).2 hu
  exact ⟨L, x', List.mem_of_getElem? h4, h5⟩
theorem next_down {ns : List S40} (h : Calm ns) {x : S40} (hx : x ∈ ns) (hu : x.f0 = false) : x ∈ nextN ns := by
  obtain ⟨i, hi, rfl⟩ := List.getElem_of_mem hx
  obtain ⟨_, _, h3⟩ := round_law h
  exact List.mem_of_getElem? ((h3 i _ (List.getElem?_eq_getElem hi)).1 hu)
theorem next_map {ns : List S40} (h : Calm ns) : (nextN ns).map nid = ns.map nid := (round_law h).2.1
theorem next_from {ns : List S40} (h : Calm ns) {x' : S40} (hx : x' ∈ nextN ns) (hu : x'.f0 = true) : ∃ x ∈ ns, x.f0 = true ∧ nid x = nid x' ∧ ∃ L : List S126, Heard (fun y => ∃ z ∈ ns, z.f0 = true ∧ nid z = y) L (stepN x) x' ∧ (∀ m ∈ L, ∃ z ∈ ns, z.f0 = true ∧ m ∈ stepM z ∧ m.f2 = nid x) ∧ ∀ z ∈ ns, z.f0 = true → ∀ m ∈ stepM z, m.f2 = nid x → m ∈ L := by
  have hm : nid x' ∈ ns.map nid := next_map h ▸ List.mem_map.2 ⟨x', hx, rfl⟩
  obtain ⟨x, h1, e⟩ := List.mem_map.1 hm
  have hn := (mayB_iff.1 (next_calm h)).1
  cases hxu : x.f0
  · have := node_eq hn (next_down h h1 hxu) hx e
    rw [this, hu] at hxu
    cases hxu
  · obtain ⟨L, y, h2, h3, h4⟩ := next_of h h1 hxu
    have := node_eq hn h2 hx (h3.id.trans e)
    subst this
    exact ⟨x, h1, hxu, e, L, h3, h4⟩
theorem up_next {ns : List S40} (h : Calm ns) {a : Int} : Up (nextN ns) a ↔ Up ns a := by
  constructor
  · rintro ⟨x', h1, h2, rfl⟩
    obtain ⟨x, h3, h4, h5, _⟩ := next_from h h1 h2
    exact ⟨x, h3, h4, h5⟩
  · rintro ⟨x, h1, h2, rfl⟩
    obtain ⟨L, x', h3, h4, _⟩ := next_of h h1 h2
    exact ⟨x', h3, h4.up, h4.id⟩
theorem view_of {ns : List S40} (h : Calm ns) {x : S40} (hx : x ∈ ns) : VOk x.f1.f0 x.f1.f1 x.f1.f2 := (nodeB_iff.1 ((nodesB_iff.1 (mayB_iff.1 h).1).2.2.1 x hx)).2.1
theorem step_named {ns : List S40} (h : Calm ns) {x : S40} (hx : x ∈ ns) {y : Int} : y ∈ namedN1 (stepN x) ↔ y ∈ namedN1 x := stepV_named (view_of h hx)
theorem greet_mem {ns : List S40} (h : Calm ns) {x : S40} (hx : x ∈ ns) {y : Int} (hy : y ∈ namedN1 x) : helloM (nid x) (idsOf (aged x.f1.f1)) y ∈ stepM x := by
  unfold stepM stepH
  exact List.mem_append_left _ (List.mem_map.2 ⟨y, (step_named h hx).2 hy, rfl⟩)
theorem r1 {ns : List S40} (h : Calm ns) {a b : Int} (k : Kn ns a b) : Kn (nextN ns) a b := by
  obtain ⟨x, h1, h2, rfl, h4⟩ := k
  obtain ⟨L, x', h5, h6, _⟩ := next_of h h1 h2
  exact ⟨x', h5, h6.up, h6.id, h6.grow.known ((step_named h h1).2 h4)⟩
theorem r2 {ns : List S40} (h : Calm ns) {a b : Int} (k : Kn ns a b) (u : Up ns b) : Fh (nextN ns) b a := by
  obtain ⟨x, h1, h2, rfl, h4⟩ := k
  obtain ⟨z, u1, u2, rfl⟩ := u
  obtain ⟨L, z', h5, h6, _, h8⟩ := next_of h u1 u2
  have hm := h8 x h1 h2 _ (greet_mem h h1 h4) rfl
  exact ⟨z', h5, h6.up, h6.id, (h6.heard _ hm rfl).1⟩
theorem r3 {ns : List S40} (h : Calm ns) {a b c : Int} (k : Kn ns a b) (u : Up ns b) (g : Ac ns a c) (hn : c ≠ b) : Kn (nextN ns) b c := by
  obtain ⟨x, h1, h2, rfl, h4⟩ := k
  obtain ⟨z, u1, u2, rfl⟩ := u
  obtain ⟨x2, g1, g2, g3, p, g4, g5, g6⟩ := g
  obtain rfl := node_eq (mayB_iff.1 h).1 g1 h1 g3
  obtain ⟨L, z', h5, h6, _, h8⟩ := next_of h u1 u2
  have hm := h8 x2 h1 h2 _ (greet_mem h h1 h4) rfl
  have hc : c ∈ idsOf (aged x2.f1.f1) := mem_idsOf.2 ⟨_, mem_aged.2 ⟨p, g4, by omega, rfl⟩, g5⟩
  exact ⟨z', h5, h6.up, h6.id, (h6.heard _ hm rfl).2 c hc hn⟩
theorem r4 {ns : List S40} (h : Calm ns) {a b : Int} (k : Kn (nextN ns) a b) (n : ¬ Kn ns a b) : Fh (nextN ns) a b := by
  obtain ⟨x', h1, h2, rfl, h4⟩ := k
  obtain ⟨x, h5, h6, h7, L, h8, _⟩ := next_from h h1 h2
  have hb : b ∉ namedN1 (stepN x) := fun hc => n ⟨x, h5, h6, h7, (step_named h h5).1 hc⟩
  refine ⟨x', h1, h2, rfl, ?_⟩
  rcases List.mem_append.1 h4 with h4 | h4
  · obtain ⟨p, hp, rfl⟩ := mem_idsOf.1 h4
    rcases h8.grow.back p hp with h9 | ⟨h9, _⟩
    · exact absurd (List.mem_append_left _ (mem_idsOf.2 ⟨p, h9, rfl⟩)) hb
    · have : p = ⟨p.f0, 0⟩ := by rw [← h9]
      rwa [this] at hp
  · exact absurd (List.mem_append_right _ (h8.grow.pass b h4)) hb
theorem r5 {ns : List S40} (h : Calm ns) {a b : Int} (k : Fh ns a b) : Ac (nextN ns) a b := by
  obtain ⟨x, h1, h2, rfl, h4⟩ := k
  obtain ⟨L, x', h5, h6, _⟩ := next_of h h1 h2
  have hm : (⟨b, 1⟩ : S98) ∈ (stepN x).f1.f1 := mem_aged.2 ⟨_, h4, by show (0 : Int) ≠ 2; decide, rfl⟩
  rcases h6.grow.stay _ hm with h7 | h7
  · exact ⟨x', h5, h6.up, h6.id, _, h7, rfl, Int.le_refl _⟩
  · exact ⟨x', h5, h6.up, h6.id, _, h7, rfl, by show (0 : Int) ≤ 1; decide⟩
section
variable {S : Int → Int → Prop}
def Reach (S : Int → Int → Prop) : Nat → Int → Int → Prop
  | 0, a, b => a = b
  | d + 1, a, b => ∃ c, Reach S d a c ∧ (c = b ∨ S c b)
theorem reach_mono {d : Nat} {a b : Int} (h : Reach S d a b) : Reach S (d + 1) a b := ⟨b, h, .inl rfl⟩
theorem reach_split {e : Nat} : ∀ {d : Nat} {a b : Int}, Reach S (d + e) a b → ∃ c, Reach S d a c ∧ Reach S e c b := by
  induction e with
  | zero => exact fun h => ⟨_, h, rfl⟩
  | succ e ih =>
    intro d a b h
    obtain ⟨c, h1, h2⟩ := (h : Reach S (d + e + 1) a b)
    obtain ⟨q, q1, q2⟩ := ih h1
    exact ⟨q, q1, c, q2, h2⟩
inductive Conn (S : Int → Int → Prop) : Int → Int → Prop
  | refl (a : Int) : Conn S a a
  | step {a b c : Int} : Conn S a b → (S b c ∨ S c b) → Conn S a c
theorem Conn.trans {a b c : Int} (h : Conn S a b) (k : Conn S b c) : Conn S a c := by
  induction k with
  | refl => exact h
  | step _ s ih => exact ih.step s
theorem Conn.symm {a b : Int} (h : Conn S a b) : Conn S b a := by
  induction h with
  | refl => exact .refl _
  | step _ s ih => exact (Conn.step (.refl _) s.symm).trans ih
theorem reach_eight {N : List Int} (hl : N.length ≤ 8) {a : Int} (ha : a ∈ N) (hN : ∀ b c, b ∈ N → S b c → c ∈ N) {b : Int} (hsym : ∀ b c, S b c → S c b) (h : Conn S a b) : Reach S 8 a b := by
  have hin : ∀ d c, Reach S d a c → c ∈ N := by
    intro d
    induction d with
    | zero => rintro c rfl; exact ha
    | succ d ih =>
      rintro c ⟨q, q1, q2 | q2⟩
      · exact q2 ▸ ih q q1
      · exact hN q c (ih q q1) q2
  have key : ∀ d, (∀ c, Reach S (d + 1) a c → Reach S d a c) ∨ ∃ l : List Int, l.Nodup ∧ l.length = d + 1 ∧ ∀ c ∈ l, Reach S d a c := by
    intro d
    induction d with
    | zero => exact .inr ⟨[a], by simp, rfl, fun c hc => (List.mem_singleton.1 hc).symm⟩
    | succ d ih =>
      have hcl : (∀ c, Reach S (d + 1) a c → Reach S d a c) → ∀ c, Reach S (d + 2) a c → Reach S (d + 1) a c := fun hc c h => by
        obtain ⟨q, q1, q2⟩ := h
        exact ⟨q, hc q q1, q2⟩
      rcases ih with ih | ⟨l, l1, l2, l3⟩
      · exact .inl (hcl ih)
      · by_cases hc : ∀ c, Reach S (d + 1) a c → Reach S d a c
        · exact .inl (hcl hc)
        · obtain ⟨c, hc⟩ := Classical.not_forall.1 hc
          obtain ⟨c1, c2⟩ := Classical.not_imp.1 hc
          refine .inr ⟨c :: l, List.nodup_cons.2 ⟨fun hm => c2 (l3 c hm), l1⟩, by rw [List.length_cons, l2], fun q hq => ?_⟩
          rcases List.mem_cons.1 hq with rfl | hq
          · exact c1
          · exact reach_mono (l3 q hq)
  have h8 : ∀ c, Reach S 9 a c → Reach S 8 a c := by
    rcases key 8 with h1 | ⟨l, l1, l2, l3⟩
    · exact h1
    · have := nodup_le l1 fun c hc => hin 8 c (l3 c hc)
      omega
  induction h with
  | refl => 
    have : ∀ d, Reach S d a a := fun d => by
      induction d with
      | zero => rfl
      | succ d ih => exact reach_mono ih
    exact this 8
  | step _ s ih =>
    rcases s with s | s
    · exact h8 _ ⟨_, ih, .inr s⟩
    · exact h8 _ ⟨_, ih, .inr (hsym _ _ s)⟩
end
def rounds : Nat → List S40 → List S40
  | 0, ns => ns
  | t + 1, ns => nextN (rounds t ns)
theorem rounds_calm {ns : List S40} (h : Calm ns) : ∀ t, Calm (rounds t ns)
  | 0 => h
  | t + 1 => next_calm (rounds_calm h t)
theorem rounds_up {ns : List S40} (h : Calm ns) {a : Int} : ∀ t, Up (rounds t ns) a ↔ Up ns a
  | 0 => Iff.rfl
  | t + 1 => (up_next (rounds_calm h t)).trans (rounds_up h t)
theorem rounds_map {ns : List S40} (h : Calm ns) : ∀ t, (rounds t ns).map nid = ns.map nid
  | 0 => rfl
  | t + 1 => (next_map (rounds_calm h t)).trans (rounds_map h t)
def Full (ns : List S40) : Prop := ∀ a b, Up ns a → Up ns b → a ≠ b → Kn ns a b
def Fresh (ns : List S40) : Prop := ∀ a b, Up ns a → Up ns b → a ≠ b → Fh ns a b
theorem Fresh.full {ns : List S40} (h : Fresh ns) : Full ns := fun a b ha hb hn => (h a b ha hb hn).kn
theorem full_next {ns : List S40} (h : Calm ns) (k : Full ns) : Fresh (nextN ns) := fun a b ha hb hn => r2 h (k b a ((up_next h).1 hb) ((up_next h).1 ha) fun e => hn e.symm) ((up_next h).1 ha)
def AllUp (ns : List S40) : Prop := ∀ x ∈ ns, x.f0 = true
theorem up_iff {ns : List S40} (hA : AllUp ns) {a : Int} : Up ns a ↔ a ∈ ns.map nid := by
  rw [List.mem_map]
  exact ⟨fun ⟨x, h1, _, h3⟩ => ⟨x, h1, h3⟩, fun ⟨x, h1, h3⟩ => ⟨x, h1, hA x h1, h3⟩⟩
theorem allUp_next {ns : List S40} (h : Calm ns) (hA : AllUp ns) : AllUp (nextN ns) := by
  intro x' hx
  have hm : nid x' ∈ ns.map nid := next_map h ▸ List.mem_map.2 ⟨x', hx, rfl⟩
  obtain ⟨y, h1, h2, h3⟩ := (up_next h).2 ((up_iff hA).2 hm)
  rw [← node_eq (mayB_iff.1 (next_calm h)).1 h1 hx h3]
  exact h2
theorem allUp_rounds {ns : List S40} (h : Calm ns) (hA : AllUp ns) : ∀ t, AllUp (rounds t ns)
  | 0 => hA
  | t + 1 => allUp_next (rounds_calm h t) (allUp_rounds h hA t)
theorem kn_node {ns : List S40} (h : Calm ns) {a b : Int} (k : Kn ns a b) : b ∈ ns.map nid := by
  obtain ⟨x, h1, _, _, h4⟩ := k
  exact isNode_map.1 ((mayB_iff.1 h).2.2.1 x h1 b h4)
theorem rounds_r1 {ns : List S40} (h : Calm ns) {a b : Int} (k : Kn ns a b) : ∀ t, Kn (rounds t ns) a b
  | 0 => k
  | t + 1 => r1 (rounds_calm h t) (rounds_r1 h k t)
theorem kn_ac {ns : List S40} (h : Calm ns) (hA : AllUp ns) (t : Nat) {a b : Int} (k : Kn (rounds (t + 2) ns) a b) : Ac (rounds (t + 2) ns) a b := by
  have c0 := rounds_calm h t
  have c1 := rounds_calm h (t + 1)
  have ua : Up ns a := by
    obtain ⟨x, x1, x2, x3, _⟩ := k
    exact (rounds_up h (t + 2)).1 ⟨x, x1, x2, x3⟩
  by_cases k1 : Kn (rounds (t + 1) ns) a b
  · by_cases k0 : Kn (rounds t ns) a b
    · have ub : Up (rounds t ns) b := (up_iff (allUp_rounds h hA t)).2 (kn_node c0 k0)
      exact (r2 c1 (r2 c0 k0 ub).kn ((rounds_up h (t + 1)).2 ua)).ac
    · exact r5 c1 (r4 c0 k1 k0)
  · exact (r4 c1 k k1).ac
section
variable {S : Int → Int → Prop}
theorem reach_cons {a c : Int} (hs : a = c ∨ S a c) : ∀ {d : Nat} {b : Int}, Reach S d c b → Reach S (d + 1) a b
  | 0, b, h => ⟨a, rfl, h ▸ hs⟩
  | d + 1, b, h => by
    obtain ⟨q, q1, q2⟩ := h
    exact ⟨q, reach_cons hs q1, q2⟩
theorem reach_symm (hsym : ∀ b c, S b c → S c b) : ∀ {d : Nat} {a b : Int}, Reach S d a b → Reach S d b a
  | 0, a, b, h => Eq.symm h
  | d + 1, a, b, h => by
    obtain ⟨q, q1, q2⟩ := h
    refine reach_cons ?_ (reach_symm hsym q1)
    rcases q2 with q2 | q2
    · exact .inl q2.symm
    · exact .inr (hsym _ _ q2)
theorem reach_in {N : List Int} (hN : ∀ b c, b ∈ N → S b c → c ∈ N) : ∀ {d : Nat} {a b : Int}, a ∈ N → Reach S d a b → b ∈ N
  | 0, a, b, ha, h => (show a = b from h) ▸ ha
  | d + 1, a, b, ha, h => by
    obtain ⟨q, q1, q2⟩ := h
    have hq := reach_in hN ha q1
    rcases q2 with q2 | q2
    · exact q2 ▸ hq
    · exact hN _ _ hq q2
end
theorem six_rounds {ns : List S40} (h : Calm ns) (hA : AllUp ns) (hc : ∀ a b, a ∈ ns.map nid → b ∈ ns.map nid → Conn (Kn ns) a b) : Full (rounds 5 ns) ∧ Fresh (rounds 6 ns) := by
  have hsym : ∀ b c, (Kn ns b c ∨ Kn ns c b) → (Kn ns c b ∨ Kn ns b c) := fun b c h => h.symm
  have hN : ∀ b c, b ∈ ns.map nid → (Kn ns b c ∨ Kn ns c b) → c ∈ ns.map nid := fun b c hb hs => by
    rcases hs with hs | hs
    · exact kn_node h hs
    · obtain ⟨x, x1, _, x3, _⟩ := hs
      exact List.mem_map.2 ⟨x, x1, x3⟩
  have up : ∀ {a : Int} (t : Nat), a ∈ ns.map nid → Up (rounds t ns) a := fun t ha => (rounds_up h t).2 ((up_iff hA).2 ha)
  have d2 : ∀ a b, a ∈ ns.map nid → Reach (fun a b => Kn ns a b ∨ Kn ns b a) 1 a b → a = b ∨ Kn (rounds 2 ns) a b := by
    rintro a b ha ⟨c, rfl, h1 | h1⟩
    · exact .inl h1
    · refine .inr ?_
      rcases h1 with h1 | h1
      · exact rounds_r1 h h1 2
      · exact r1 (rounds_calm h 1) (r2 h h1 ((up_iff hA).2 ha)).kn
  have dd : ∀ (t r : Nat), (∀ a b, a ∈ ns.map nid → Reach (fun a b => Kn ns a b ∨ Kn ns b a) r a b → a = b ∨ Kn (rounds (t + 2) ns) a b) → ∀ a b, a ∈ ns.map nid → Reach (fun a b => Kn ns a b ∨ Kn ns b a) (r + r) a b → a = b ∨ Kn (rounds (t + 3) ns) a b := by
    intro t r hd a b ha hr
    have cc := rounds_calm h (t + 2)
    obtain ⟨c, c1, c2⟩ := reach_split hr
    have hcm := reach_in hN ha c1
    have k2 := hd c b hcm c2
    have k1 := hd c a hcm (reach_symm hsym c1)
    by_cases e : a = b
    · exact .inl e
    · refine .inr ?_
      rcases k1 with rfl | k1
      · rcases k2 with k2 | k2
        · exact absurd k2 e
        · exact r1 cc k2
      · rcases k2 with rfl | k2
        · rcases hd a c ha c1 with k3 | k3
          · exact absurd k3 e
          · exact r1 cc k3
        · exact r3 cc k1 (up _ ha) (kn_ac h hA t k2) fun e2 => e e2.symm
  have d5 := dd 2 4 (dd 1 2 (dd 0 1 d2))
  have hfull : Full (rounds 5 ns) := by
    intro a b ua ub hn
    have ha := (up_iff hA).1 ((rounds_up h 5).1 ua)
    have hb := (up_iff hA).1 ((rounds_up h 5).1 ub)
    have hco := hc a b ha hb
    have hco2 : Conn (fun a b => Kn ns a b ∨ Kn ns b a) a b := by
      clear ha hb ub hn
      induction hco with
      | refl => exact .refl _
      | step _ s ih => exact ih.step (.inl s)
    have h8 := reach_eight (N := ns.map nid) (by rw [List.length_map]; exact (nodesB_iff.1 (mayB_iff.1 h).1).2.1) ha hN hsym hco2
    exact (d5 a b ha h8).resolve_left hn
  exact ⟨hfull, full_next (rounds_calm h 5) hfull⟩
end Go.Proofs.YtljipbmmgcccnaaGreat.T
end
section
namespace Go.Proofs.YtljipbmmgcccnaaGreat.T
open Go.RowKit Go.Proofs.YtljipbmmgcccnaaGreatW.PrintWords Go.Proofs.YtljipbmmgcccnaaGreatW.PrintLast Go.Proofs.YtljipbmmgcccnaaGreatW.PrintMore
attribute [local go_sem] cell_tc frozen_tc max2_int min2_int
attribute [local go_sem ↓] Go.wp_at_zero Go.wp_at_succ
set_option linter.unusedVariables false
set_option linter.unusedSimpArgs false
set_option synthInstance.maxHeartbeats 400000
set_option synthInstance.maxSize 512
theorem fh_at {ns : List S40} (h : Calm ns) {x : S40} (hx : x ∈ ns) {b : Int} (k : Fh ns (nid x) b) : (⟨b, 0⟩ : S98) ∈ x.f1.f1 := by
  obtain ⟨y, h1, _, h3, h4⟩ := k
  rw [← node_eq (mayB_iff.1 h).1 h1 hx h3]
  exact h4
def roundsW : Nat → WS → WS
  | 0, s => s
  | t + 1, s => roundW (roundsW t s)
theorem roundsW_ok {s : WS} (h : OkW s) : ∀ t, OkW (roundsW t s)
  | 0 => h
  | t + 1 => roundW_ok (roundsW_ok h t)
structure Whole (s : WS) : Prop where
  ok : OkW s
  up : AllUp s.1
  con : ∀ a b, a ∈ s.1.map nid → b ∈ s.1.map nid → Conn (Kn s.1) a b
theorem Conn.mono {S R : Int → Int → Prop} (h : ∀ a b, S a b → R a b) {a b : Int} (k : Conn S a b) : Conn R a b := by
  induction k with
  | refl => exact .refl _
  | step _ s ih =>
    refine ih.step ?_
    rcases s with s | s
    · exact .inl (h _ _ s)
    · exact .inr (h _ _ s)
theorem roundsW_calm {ns : List S40} (h : Calm ns) : ∀ t, roundsW t (ns, []) = (rounds t ns, [])
  | 0 => rfl
  | t + 1 => by
    show roundW (roundsW t (ns, [])) = _
    rw [roundsW_calm h t, next_eq (rounds_calm h t)]
    rfl
theorem start_law {s : WS} (h : Whole s) : ∃ ns, Whole (ns, []) ∧ ns.map nid = s.1.map nid ∧ ns = (deliverAll 1024 s).1 ∧ ∀ t, roundsW (t + 1) s = (rounds (t + 1) ns, []) := by
  obtain ⟨f1, f2, f3⟩ := round_first h.ok
  have h512 := (queueB_iff.1 (mayB_iff.1 h.ok).2.1).1
  have hn : s.2.length + asks s.2 ≤ 1024 := by have := asks_le s.2; omega
  obtain ⟨_, d2, _⟩ := deliver_fold 1024 h.ok hn
  have e : deliverAll 1024 s = ((deliverAll 1024 s).1, []) := by rw [← f1]
  have hc : Calm (deliverAll 1024 s).1 := by
    unfold Calm
    rw [← e]
    exact f2
  have hto : ∀ x ∈ s.1, ∃ x' ∈ (deliverAll 1024 s).1, x'.f0 = true ∧ nid x' = nid x ∧ ∀ y ∈ namedN1 x, y ∈ namedN1 x' := by
    intro x hx
    obtain ⟨i, hi, rfl⟩ := List.getElem_of_mem hx
    obtain ⟨L, x', l1, l2, _⟩ := deliver_heard 1024 h.ok hn (List.getElem?_eq_getElem hi) (h.up _ hx)
    exact ⟨x', List.mem_of_getElem? l1, l2.up, l2.id, fun y hy => l2.grow.known hy⟩
  have hA : AllUp (deliverAll 1024 s).1 := by
    intro x' hx
    have hm : nid x' ∈ s.1.map nid := d2 ▸ List.mem_map.2 ⟨x', hx, rfl⟩
    obtain ⟨x, x1, x2⟩ := List.mem_map.1 hm
    obtain ⟨y, y1, y2, y3, _⟩ := hto x x1
    rw [← node_eq (mayB_iff.1 hc).1 y1 hx (y3.trans x2)]
    exact y2
  refine ⟨_, ⟨hc, hA, fun a b ha hb => ?_⟩, d2, rfl, fun t => ?_⟩
  · rw [d2] at ha hb
    refine (h.con a b ha hb).mono ?_
    rintro a b ⟨x, x1, _, rfl, x4⟩
    obtain ⟨y, y1, y2, y3, y4⟩ := hto x x1
    exact ⟨y, y1, y2, y3, y4 b x4⟩
  · induction t with
    | zero =>
      show roundW s = _
      rw [f3, e, next_eq hc]
      rfl
    | succ t ih =>
      show roundW (roundsW (t + 1) s) = _
      rw [ih, next_eq (rounds_calm hc (t + 1))]
      rfl
theorem whole_fresh {ns : List S40} (h : Whole (ns, [])) (t : Nat) (ht : 6 ≤ t) : Fresh (rounds t ns) := by
  obtain ⟨_, k⟩ := six_rounds h.ok h.up h.con
  obtain ⟨d, rfl⟩ : ∃ d, t = d + 6 := ⟨t - 6, by omega⟩
  clear ht
  induction d with
  | zero => exact k
  | succ d ih => exact full_next (rounds_calm h.ok (d + 6)) ih.full
structure Keeps (s s' : WS) : Prop where
  ok : OkW s'
  up : AllUp s'.1
  ids : s'.1.map nid = s.1.map nid
  kn : ∀ a b, Kn s.1 a b → Kn s'.1 a b
theorem Keeps.trans {s s' s2 : WS} (h : Keeps s s') (k : Keeps s' s2) : Keeps s s2 := ⟨k.ok, k.up, k.ids.trans h.ids, fun a b g => k.kn a b (h.kn a b g)⟩
theorem rises_same {α : Type} {f : α → Int} : ∀ {l l' : List α}, Rises f l → Rises f l' → (∀ y, y ∈ l ↔ y ∈ l') → l = l'
  | [], [], _, _, _ => rfl
  | [], y :: l', _, _, h => absurd ((h y).2 (List.mem_cons_self ..)) (by simp)
  | x :: l, [], _, _, h => absurd ((h x).1 (List.mem_cons_self ..)) (by simp)
  | x :: l, y :: l', h1, h2, h => by
    have c1 := (List.pairwise_cons.1 h1).1
    have c2 := (List.pairwise_cons.1 h2).1
    have e : x = y := by
      rcases List.mem_cons.1 ((h x).1 (List.mem_cons_self ..)) with e | e
      · exact e
      · rcases List.mem_cons.1 ((h y).2 (List.mem_cons_self ..)) with e2 | e2
        · exact e2.symm
        · have := c2 x e; have := c1 y e2; omega
    subst e
    rw [rises_same h1.tail h2.tail fun z => ?_]
    constructor
    · intro hz
      rcases List.mem_cons.1 ((h z).1 (List.mem_cons_of_mem _ hz)) with e | e
      · subst e; have := c1 z hz; omega
      · exact e
    · intro hz
      rcases List.mem_cons.1 ((h z).2 (List.mem_cons_of_mem _ hz)) with e | e
      · subst e; have := c2 z hz; omega
      · exact e
theorem fresh_view {ns : List S40} (h : Calm ns) (hA : AllUp ns) (F : Fresh ns) {x : S40} (hx : x ∈ ns) : x.f1.f2 = [] ∧ ∀ p, p ∈ x.f1.f1 ↔ p.f1 = 0 ∧ p.f0 ∈ ns.map nid ∧ p.f0 ≠ nid x := by
  have hv := view_of h hx
  have hin : ∀ y, y ∈ ns.map nid → y ≠ nid x → (⟨y, 0⟩ : S98) ∈ x.f1.f1 := fun y hy hn => fh_at h hx (F _ _ ((up_iff hA).2 (List.mem_map.2 ⟨x, hx, rfl⟩)) ((up_iff hA).2 hy) fun e => hn e.symm)
  have hkn : ∀ y ∈ namedN1 x, y ∈ ns.map nid := fun y hy => kn_node h (a := nid x) ⟨x, hx, hA x hx, rfl, hy⟩
  constructor
  · cases e : x.f1.f2 with
    | nil => rfl
    | cons y ys =>
      have hy : y ∈ x.f1.f2 := by rw [e]; exact List.mem_cons_self ..
      obtain ⟨_, a2, a3⟩ := hv.x y hy
      exact absurd rfl (a3 _ (hin y (hkn y (List.mem_append_right _ hy)) a2))
  · intro p
    constructor
    · intro hp
      have h1 := hkn p.f0 (List.mem_append_left _ (mem_idsOf.2 ⟨p, hp, rfl⟩))
      have h2 := (hv.p p hp).2.2.2
      have h3 := hin p.f0 h1 h2
      have := rises_inj hv.rp hp h3 rfl
      exact ⟨by rw [this], h1, h2⟩
    · rintro ⟨h1, h2, h3⟩
      have := hin p.f0 h2 h3
      rwa [show p = ⟨p.f0, 0⟩ by rw [← h1]]
theorem still_law {ns : List S40} (h : Calm ns) (hA : AllUp ns) (F : Fresh ns) : (nextN ns).length = ns.length ∧ ∀ (i : Nat) (x y : S40), ns[i]? = some x → (nextN ns)[i]? = some y → y.f1 = x.f1 ∧ ∀ a ∈ x.f2, ∃ b, getI y.f2 a.f0 = some b ∧ bestE a b = 0 ∧ bestI a b = b := by
  have c := next_calm h
  have a := allUp_next h hA
  have G := full_next h F.full
  have hm := next_map h
  refine ⟨by have := congrArg List.length hm; simpa using this, fun i x y hx hy => ?_⟩
  have hxm := List.mem_of_getElem? hx
  have hym := List.mem_of_getElem? hy
  have hid : nid y = nid x := by
    have := congrArg (fun l : List Int => l[i]?) hm
    simp only [List.getElem?_map, hx, hy, Option.map_some] at this
    exact Option.some.inj this
  obtain ⟨v1, v2⟩ := fresh_view h hA F hxm
  obtain ⟨u1, u2⟩ := fresh_view c a G hym
  have hpeers : y.f1.f1 = x.f1.f1 := by
    have hr := (view_of c hym).rp
    rw [show y.f1.f0 = x.f1.f0 from hid] at hr
    refine rises_same hr (view_of h hxm).rp fun p => ?_
    rw [u2, v2, hm, hid]
  refine ⟨?_, fun e he => ?_⟩
  · have e0 : y.f1.f0 = x.f1.f0 := hid
    have e2 : y.f1.f2 = x.f1.f2 := u1.trans v1.symm
    generalize y.f1 = q at *
    generalize x.f1 = r at *
    obtain ⟨q0, q1, q2⟩ := q
    obtain ⟨r0, r1, r2⟩ := r
    simp only at e0 hpeers e2
    rw [e0, hpeers, e2]
  · obtain ⟨L, x', h5, h6, _⟩ := next_of h hxm (hA x hxm)
    have : x' = y := node_eq (mayB_iff.1 c).1 h5 hym (h6.id.trans hid.symm)
    subst this
    obtain ⟨b, hb, e1, r⟩ := h6.mono e he
    have sx := (nodeB_iff.1 (h.node hx).1).2.2.1
    have sy := (nodeB_iff.1 h6.ok).2.2.1
    have oe := (storeB_iff.1 sx).2.1 e he
    have ob := (storeB_iff.1 sy).2.1 b hb
    refine ⟨b, (getI_some sy).2 ⟨hb, e1⟩, ?_, ?_⟩
    · have hB : bestB e b = true := by unfold bestB; rw [oe, ob]; simpa using e1.symm
      unfold bestE
      rw [if_pos hB]
    · rw [best_rank oe ob e1.symm, if_neg (by omega)]
end Go.Proofs.YtljipbmmgcccnaaGreat.T
end
section
namespace Go.Proofs.YtljipbmmgcccnaaGreat.T
open Go.RowKit Go.Proofs.YtljipbmmgcccnaaGreatW.PrintWords Go.Proofs.YtljipbmmgcccnaaGreatW.PrintLast Go.Proofs.YtljipbmmgcccnaaGreatW.PrintMore
attribute [local go_sem] cell_tc frozen_tc max2_int min2_int
attribute [local go_sem ↓] Go.wp_at_zero Go.wp_at_succ
set_option linter.unusedVariables false
set_option linter.unusedSimpArgs false
set_option synthInstance.maxHeartbeats 400000
set_option synthInstance.maxSize 512
attribute [local go_sem] cell_tc2
theorem nodesFit_of {ns : List S40} (h : nodesB ns = true) : nodesFit ns := fun x hx => by
  have h1 := nodeB_small ((nodesB_iff.1 h).2.2.1 x hx)
  unfold nodeSz
  omega
theorem roundsW_len {s : WS} (h : OkW s) : ∀ t, (roundsW t s).1.length = s.1.length
  | 0 => rfl
  | t + 1 => by
    have h1 := roundsW_ok h t
    have h2 := roundsW_len h t
    show (roundW (roundsW t s)).1.length = _
    rw [← h2]
    generalize roundsW t s = r at h1
    obtain ⟨f1, f2, f3⟩ := round_first h1
    have h512 := (queueB_iff.1 (mayB_iff.1 h1).2.1).1
    have hn : r.2.length + asks r.2 ≤ 1024 := by have := asks_le r.2; omega
    obtain ⟨_, d2, _⟩ := deliver_fold 1024 h1 hn
    have e : deliverAll 1024 r = ((deliverAll 1024 r).1, []) := Prod.ext rfl f1
    have hc : Calm (deliverAll 1024 r).1 := by
      unfold Calm
      rw [← e]
      exact f2
    rw [f3, e]
    have h3 := congrArg List.length ((round_law hc).2.1)
    have h4 := congrArg List.length d2
    rw [List.length_map, List.length_map] at h3 h4
    exact h3.trans h4
set_option maxRecDepth 100000 in
set_option maxHeartbeats 16000000 in
theorem rounds_ {many : Nat} {n c d k f : Nat} {A B C : Option Addr} {ns : List S40} {ps : List S126} {w : World} [h : Sr k40 w A n c ns] [q : Sr k126 w C k f ps] (hO : OkW (ns, ps)) (hm : 1 ≤ many) (hm2 : many ≤ 100) :
    Calls Tryz.prog 23 #[.agg #[.slice A n c, .slice B 0 d, .slice C k f], .int .i64 many] w fun e w' => ∃ v, e = .returned (.tuple #[v, .bool true]) ∧ WorldR w' w.heap.size v (roundsW many (ns, ps)).1 (roundsW many (ns, ps)).2 ∧ BelL w w' := by
  obtain rfl := h.len
  obtain rfl := q.len
  have s1 := sr_l h
  have s2 := sr_l q
  clear h q
  generalize hy : roundsW many (ns, ps) = y
  have HY := Aside0.mk hy
  clear hy
  go_enter Tryz.func23, Tryz.ntmps23
  go_wp2_with (first | (with_reducible refine gate_dst (N := 2) rfl ?_; refine box_tc rfl (N := 2) rfl (cs := #[.slice A ns.length c, .slice B 0 d, .slice C ps.length f]) (t := 61) ?hr ?_; (case hr => first | (go_simp; done) | (go_simp; rfl)); intro g2 wg2 _ _ _) | (with_reducible refine gate_dst (N := 4) rfl ?_; refine box_tc rfl (N := 4) rfl (cs := #[.slice none 0 0, .slice none 0 0, .slice none 0 0]) (t := 61) ?hr ?_; (case hr => first | (go_simp; done) | (go_simp; rfl)); intro g4 wg4 _ _ _))
  refine wp_letter fun wl hbl => ?_
  have B2 : BlkL wl g2 #[.slice A ns.length c, .slice B 0 d, .slice C ps.length f] 61 := blkL
  have B4 : BlkL wl g4 #[.slice none 0 0, .slice none 0 0, .slice none 0 0] 61 := blkL
  have hwl : BelL w wl := belL
  have G2 : GE w g2 := inferInstance
  have G4 : GE w g4 := inferInstance
  have l2 : LtB g2 wl.heap.size := inferInstance
  have l4 : LtB g4 wl.heap.size := inferInstance
  have n24 : NeB g2 g4 := inferInstance
  have n42 : NeB g4 g2 := inferInstance
  go_loopg [6, 7, 8] many (fun kq v6 v7 v8 w' => ∃ (i : Nat) (s : WS), v6 = .int .i64 i ∧ i ≤ many ∧ kq = many - i ∧ OkW s ∧ Aside0 (roundsW i (ns, ps) = s) ∧ LeB wl.heap.size w'.heap.size ∧ BelL w w' ∧ BlkL w' g4 #[.slice none 0 0, .slice none 0 0, .slice none 0 0] 61 ∧ ((i = 0 ∧ BlkL w' g2 #[.slice A ns.length c, .slice B 0 d, .slice C ps.length f] 61) ∨ ∃ (A' : Option Addr) (c' : Nat) (B' : Option Addr) (d' : Nat) (C' : Option Addr) (f' : Nat), 1 ≤ i ∧ BlkL w' g2 #[.slice A' s.1.length c', .slice B' 0 d', .slice C' s.2.length f'] 61 ∧ FrL k40 40 w' w.heap.size (Three w'.heap.size g2 g4) A' s.1.length c' s.1 ∧ FrL k126 126 w' w.heap.size (Three w'.heap.size g2 g4) C' s.2.length f' s.2))
  case atStart => exact ⟨0, (ns, ps), rfl, Nat.zero_le _, rfl, hO, ⟨rfl⟩, inferInstance, belL, blkL, .inl ⟨rfl, blkL⟩⟩
  case round =>
    obtain ⟨i, s, rfl, hi, rfl, hOs, HS, hle, hbr, hB4, hor⟩ := hrel
    by_cases hlt : i < many
    · have HLS := Aside0.mk (show s.1.length = ns.length by have := roundsW_len hO i; rwa [HS.out] at this)
      have hOz := roundW_ok hOs
      have hlz : (roundW s).1.length = ns.length := by
        have := roundsW_len hO (i + 1)
        rw [show roundsW (i + 1) (ns, ps) = roundW s from congrArg roundW HS.out] at this
        exact this
      have HN := Aside0.mk (show roundsW (i + 1) (ns, ps) = roundW s from congrArg roundW HS.out)
      generalize hz : roundW s = z at HN hOz hlz
      have HZ := Aside0.mk hz
      clear hz
      have HFt := Aside0.mk (nodesFit_of (mayB_parts hOz).1)
      have HMy := Aside0.mk (show mayB z.1 z.2 = true from hOz)
      have hne : ((z.1.length : Int) != (s.1.length : Int)) = false := by rw [hlz, HLS.out]; simp
      clear hlz
      rcases hor with ⟨rfl, hB2⟩ | ⟨A', c', B', d', C', f', hi1, hB2, hs1, hs2⟩
      · obtain rfl : s = (ns, ps) := HS.out.symm
        go_upto_region 5 with (first | (go_at_call 27; (with_reducible refine Calls.mono (round_ (ns := ns) (ps := ps) hOs) ?_); rw [HZ.out]; rintro e w3 ⟨v3, rfl, ⟨A3, c3, B3, d3, C3, f3, rfl, hF3, hG3⟩, hb3⟩; have hbw3 : BelL w w3 := belL) | (with_reducible refine gate_dst (N := 7) rfl ?_; refine box_tc rfl (N := 7) rfl (cs := #[.slice none 0 0, .slice none 0 0, .slice none 0 0]) (t := 61) ?hr ?_; (case hr => first | (go_simp; done) | (go_simp; rfl)); intro g7 wg7 _ _ _))
        go_wp2_with (first | (go_at_call 11; (with_reducible refine Calls.mono (num _ _) ?_); rintro e w' ⟨rfl, ⟨nd, rfl⟩⟩) | (go_at_call 62; (with_reducible refine Calls.mono (refWorld_ (ns := z.1) (ps := z.2) HFt.out) ?_); rw [HMy.out]; rintro e w4 ⟨rfl, hb4⟩; have hbw4 : BelL w w4 := belL))
        go_roundg (many - (0 + 1))
        case measure => omega
        case rel => exact ⟨0 + 1, z, by go_num, by omega, rfl, hOz, HN, inferInstance, belL, blkL, .inr ⟨A3, c3, B3, d3, C3, f3, by omega, blkL, frl_three, frl_three⟩⟩
      · go_upto_region 5 with (first | (go_at_call 27; (with_reducible refine Calls.mono (round_ (ns := s.1) (ps := s.2) hOs) ?_); rw [HZ.out]; rintro e w3 ⟨v3, rfl, ⟨A3, c3, B3, d3, C3, f3, rfl, hF3, hG3⟩, hb3⟩; have hbw3 : BelL w w3 := belL) | (with_reducible refine gate_dst (N := 7) rfl ?_; refine box_tc rfl (N := 7) rfl (cs := #[.slice none 0 0, .slice none 0 0, .slice none 0 0]) (t := 61) ?hr ?_; (case hr => first | (go_simp; done) | (go_simp; rfl)); intro g7 wg7 _ _ _))
        go_wp2_with (first | (go_at_call 11; (with_reducible refine Calls.mono (num _ _) ?_); rintro e w' ⟨rfl, ⟨nd, rfl⟩⟩) | (go_at_call 62; (with_reducible refine Calls.mono (refWorld_ (ns := z.1) (ps := z.2) HFt.out) ?_); rw [HMy.out]; rintro e w4 ⟨rfl, hb4⟩; have hbw4 : BelL w w4 := belL))
        go_roundg (many - (i + 1))
        case measure => omega
        case rel => exact ⟨i + 1, z, by go_num, by omega, rfl, hOz, HN, inferInstance, belL, blkL, .inr ⟨A3, c3, B3, d3, C3, f3, by omega, blkL, frl_three, frl_three⟩⟩
    · obtain rfl : i = many := by omega
      rcases hor with ⟨rfl, hB2⟩ | ⟨A', c', B', d', C', f', hi1, hB2, hs1, hs2⟩
      · omega
      · obtain rfl : s = y := HS.out.symm.trans HY.out
        go_wp2
        exact bodyPost_ret (v := .tuple #[.agg #[.slice A' s.1.length c', .slice B' 0 d', .slice C' s.2.length f'], .bool true]) (by simp [results, Tryz.results23, go_sem]) rfl ⟨_, rfl, ⟨A', c', B', d', C', f', rfl, frl, frl⟩, belL⟩
end Go.Proofs.YtljipbmmgcccnaaGreat.T
end
section
namespace Go.Proofs.YtljipbmmgcccnaaGreat.T
open Go.RowKit Go.Proofs.YtljipbmmgcccnaaGreatW.PrintWords Go.Proofs.YtljipbmmgcccnaaGreatW.PrintLast Go.Proofs.YtljipbmmgcccnaaGreatW.PrintMore
attribute [local go_sem] cell_tc frozen_tc max2_int min2_int
attribute [local go_sem ↓] Go.wp_at_zero Go.wp_at_succ
set_option linter.unusedVariables false
set_option linter.unusedSimpArgs false
set_option synthInstance.maxHeartbeats 400000
set_option synthInstance.maxSize 512
attribute [local go_sem] cell_tc2 frozen_row
theorem lit_row {W : World} {g : Nat} {zs : List Int} (h : BlkL W g ((zs.map (Value.int .i64)).toArray) 3) (hl : zs.length ≤ 1000000) : FrL kI 3 W g Any (some ⟨g, 0, none⟩) zs.length zs.length zs := by
  refine ⟨rfl, Nat.le_refl _, fun _ _ => trivial, zs.map (Value.int .i64), ⟨?_, .inr ⟨g, zs.length, _, rfl, Nat.le_refl _, h.out, Nat.le_refl _, ?_, ?_, ?_⟩⟩, ⟨?_, fun j p hj => ?_⟩⟩
  · show (zs.map (Value.int .i64)).length = zs.length * 1
    simp
  · show zs.length ≤ maxLen
    unfold maxLen
    omega
  · show ((zs.map (Value.int .i64)).toArray).size = zs.length * 1
    simp
  · show ((zs.map (Value.int .i64)).toArray).toList.take (zs.length * 1) = zs.map (Value.int .i64)
    rw [Nat.mul_one]
    exact List.take_of_length_le (by simp)
  · show (zs.map (Value.int .i64)).length = zs.length * 1
    simp
  · show ((zs.map (Value.int .i64)).drop (j * 1)).take 1 = [Value.int .i64 p]
    have hjl := (List.getElem?_eq_some_iff.1 hj).1
    rw [Nat.mul_one, List.drop_eq_getElem_cons (by simpa using hjl)]
    simp
    exact (List.getElem?_eq_some_iff.1 hj).2
theorem made_zero (k : Nat) : madeCells #[.int .i64 0] k = (((List.replicate k (0 : Int)).map (Value.int .i64)).toArray) := by
  apply Array.ext
  · simp [madeCells]
  · intro i h1 h2
    simp [madeCells]
    rw [Nat.mod_one]
    rfl
section
variable {ops : Array Oper} {rest : List Oper} {o : Oper} {a : Act} {Q : Exit → Act → World → Prop}
theorem make_int {W : World} (hgd : o.guard = none) {k : Nat} {x : Operand} (ho : o.op = .makeSlice 23 x x) (hx : a.eval x = .int .i64 k) (hk : k ≤ 1000000)
    (h : ∀ g w1, FrL kI 3 w1 g Any (some ⟨g, 0, none⟩) k k (List.replicate k 0) → RowL w1 g → BelL W w1 → GEL W g → wpList Tryz.prog ops Q rest (a.put o.dst (.slice (some ⟨g, 0, none⟩) k k)) w1) : wpList Tryz.prog ops Q (o :: rest) a W := by
  have hi : (Tryz.prog.info? 3).map (fun i => (i.size, i.bytes, i.zero)) = some (1, 8, some (.int .i64 0)) := by kernel_rfl
  obtain ⟨i, i1, i5⟩ := Option.map_eq_some_iff.1 hi
  simp only [Prod.mk.injEq] at i5
  obtain ⟨i2, i3, i4⟩ := i5
  have hr := run_make (P := Tryz.prog) W 23 3 i (.int .i64 0) Tryz.underlying23 i1 i4 .i64 .i64 (k : Int) (k : Int) (by omega) (Int.le_refl _) (by rw [i3]; omega) (by omega)
  simp only [Int.toNat_natCast, i2, Nat.mul_one] at hr
  rw [show (Value.int IntKind.i64 0).cells = #[.int .i64 0] from rfl, made_zero] at hr
  refine Kd.event_run hgd (v := .slice (some ⟨W.heap.size, 0, none⟩) k k) (w1 := W.alloc (.cells (((List.replicate k (0 : Int)).map (Value.int .i64)).toArray) 3 (0, 0))) ?_ (h _ _ ?_ ⟨_, _, blk_new W _⟩ ⟨below_alloc (Below.refl _ _) _⟩ ⟨Nat.le_refl _⟩)
  · clear h hi i1 i2 i3 i4
    generalize a.eval = ev at hx
    unfold execOp
    rw [ho]
    simp only [hx]
    generalize hA : W.alloc (.cells (((List.replicate k (0 : Int)).map (Value.int .i64)).toArray) 3 (0, 0)) = W2 at hr ⊢
    simp [hr, go_sem]
  · have := lit_row (W := W.alloc (.cells (((List.replicate k (0 : Int)).map (Value.int .i64)).toArray) 3 (0, 0))) (g := W.heap.size) (zs := List.replicate k 0) ⟨blk_new W _⟩ (by rw [List.length_replicate]; exact hk)
    rwa [List.length_replicate] at this
end
set_option maxHeartbeats 2000000 in
theorem knows_ {id : Int} {A B : Option Addr} {n c m d : Nat} {ps : List S98} {xs : List Int} {w : World} [h1 : Sr k98 w A n c ps] [h2 : Sr kI w B m d xs] (hn : n ≤ 100000) (hm : m ≤ 100000) :
    Calls Tryz.prog 63 #[.agg #[.int .i64 id, .slice A n c, .slice B m d]] w fun e w' => ∃ A' c', e = .returned (.slice A' (n + m) c') ∧ FrL kI 3 w' w.heap.size (Under w'.heap.size) A' (n + m) c' (idsOf ps ++ xs) ∧ BelL w w' := by
  obtain rfl := h1.len
  obtain rfl := h2.len
  have s1 := sr_l h1
  have s2 := sr_l h2
  clear h1 h2
  go_enter Tryz.func63, Tryz.ntmps63
  go_wp2_with (first | (with_reducible refine gate_dst (N := 1) rfl ?_; refine box_tc rfl (N := 1) rfl (cs := #[.int .i64 id, .slice A ps.length c, .slice B xs.length d]) (t := 25) ?hr ?_; (case hr => first | (go_simp; done) | (go_simp; rfl)); intro g1 wg1 _ _ _) | (go_at_call 114; (with_reducible refine Calls.mono (refNames_ (ps := ps) (by omega)) ?_); rintro e wn ⟨An, cn, rfl, hFn, hbn⟩) | ((with_reducible refine gate_dst (N := 10) rfl ?_); refine app_tc (k := kI) (t := 23) (A := An) (n := ps.length) (c := cn) (B := B) (m := xs.length) (d := d) (by rfl) (by rfl) Tryz.underlying23 (by rfl) (by rfl) (by omega) ?_; intro A4 c4 w4 _ _ _))
  go_ret
  exact ⟨_, _, rfl, frl, belL⟩
end Go.Proofs.YtljipbmmgcccnaaGreat.T
end
section
namespace Go.Proofs.YtljipbmmgcccnaaGreat.T
open Go.RowKit Go.Proofs.YtljipbmmgcccnaaGreatW.PrintWords Go.Proofs.YtljipbmmgcccnaaGreatW.PrintLast Go.Proofs.YtljipbmmgcccnaaGreatW.PrintMore
attribute [local go_sem] cell_tc frozen_tc max2_int min2_int
attribute [local go_sem ↓] Go.wp_at_zero Go.wp_at_succ
set_option linter.unusedVariables false
set_option linter.unusedSimpArgs false
set_option synthInstance.maxHeartbeats 400000
set_option synthInstance.maxSize 512
attribute [local go_sem] cell_tc2 frozen_row
theorem cell_I {W : World} {g n c : Nat} {l : List Int} [h : Sr kI W (some ⟨g, 0, none⟩) n c l] (i : Nat) (hi : i < l.length) : CellL W ⟨g, i, none⟩ (.int .i64 l[i]) := by
  obtain ⟨ad, e, q⟩ := el_I (W := W) (A := some ⟨g, 0, none⟩) (n := n) (c := c) (l := l) i hi
  injection e with e
  subst e
  have := q.out
  rw [Addr.add_lit, Nat.zero_add] at this
  exact ⟨this⟩
def fillZ (k i : Nat) : List Int := (List.range i).map (fun j : Nat => (j : Int)) ++ List.replicate (k - i) 0
theorem fillZ_len {k i : Nat} (h : i ≤ k) : (fillZ k i).length = k := by unfold fillZ; simp; omega
theorem fillZ_set {k i : Nat} (h : i < k) : (fillZ k i).set i (i : Int) = fillZ k (i + 1) := by
  unfold fillZ
  have e : ((List.range i).map (fun j : Nat => (j : Int))).length = i := by simp
  rw [List.set_append_right _ _ (by rw [e]; exact Nat.le_refl i), e, Nat.sub_self, List.range_succ, List.map_append, List.append_assoc]
  congr 1
  obtain ⟨d, hd⟩ : ∃ d, k - i = d + 1 := ⟨k - i - 1, by omega⟩
  have hd2 : k - (i + 1) = d := by omega
  rw [hd, hd2, List.replicate_succ]
  rfl
def partOk (ns : List S40) (zs : List Int) : Prop := zs.length = ns.length ∧ ∀ (i : Nat) (h : i < zs.length) (h' : i < ns.length), ∃ (j : Nat) (hj : j < ns.length), zs[i] = (j : Int) ∧ Conn (Kn ns) (nid ns[i]) (nid ns[j])
theorem part_start (ns : List S40) : partOk ns (fillZ ns.length ns.length) := by
  refine ⟨fillZ_len (Nat.le_refl _), fun i h h' => ⟨i, h', ?_, .refl _⟩⟩
  have e : (fillZ ns.length ns.length)[i]? = some (i : Int) := by unfold fillZ; simp [h']
  exact (List.getElem?_eq_some_iff.1 e).2
theorem part_step {ns : List S40} {zs : List Int} (h : partOk ns zs) {i q : Nat} (hi : i < ns.length) (hq : q < ns.length) (hiz : i < zs.length) (hqz : q < zs.length) (hk : Kn ns (nid ns[i]) (nid ns[q])) {p : Int} (hp : p = zs[i] ∨ p = zs[q]) : partOk ns ((zs.set i p).set q p) := by
  obtain ⟨h1, h2⟩ := h
  have hc : Conn (Kn ns) (nid ns[i]) (nid ns[q]) := .step (.refl _) (.inl hk)
  have hpp : ∃ (j : Nat) (hj : j < ns.length), p = (j : Int) ∧ Conn (Kn ns) (nid ns[i]) (nid ns[j]) := by
    rcases hp with hp | hp
    · obtain ⟨j, hj, e, c⟩ := h2 i hiz hi
      exact ⟨j, hj, hp.trans e, c⟩
    · obtain ⟨j, hj, e, c⟩ := h2 q hqz hq
      exact ⟨j, hj, hp.trans e, hc.trans c⟩
  obtain ⟨j, hj, e, c⟩ := hpp
  refine ⟨by rw [List.length_set, List.length_set]; exact h1, fun r hr hr' => ?_⟩
  rw [List.length_set, List.length_set] at hr
  rw [List.getElem_set]
  split
  · rename_i e2
    subst e2
    exact ⟨j, hj, e, hc.symm.trans c⟩
  · rw [List.getElem_set]
    split
    · rename_i e2
      subst e2
      exact ⟨j, hj, e, c⟩
    · exact h2 r hr hr'
theorem part_whole {ns : List S40} {ps : List S126} {zs : List Int} (h : partOk ns zs) (hO : mayB ns ps = true) (hu : AllUp ns) (h0 : ∀ (i : Nat) (hi : i < zs.length), zs[i] = 0) : Whole (ns, ps) := by
  obtain ⟨h1, h2⟩ := h
  have hc : ∀ a, a ∈ ns.map nid → ∃ b, Conn (Kn ns) a b ∧ ∀ (h : 0 < ns.length), b = nid ns[0] := by
    intro a ha
    obtain ⟨x, hx, rfl⟩ := List.mem_map.1 ha
    obtain ⟨i, hi, rfl⟩ := List.getElem_of_mem hx
    obtain ⟨j, hj, e, c⟩ := h2 i (by omega) hi
    rw [h0 i (by omega)] at e
    have : j = 0 := by omega
    subst this
    exact ⟨_, c, fun _ => rfl⟩
  refine ⟨hO, hu, fun a b ha hb => ?_⟩
  obtain ⟨x, cx, ex⟩ := hc a ha
  obtain ⟨y, cy, ey⟩ := hc b hb
  have hpos : 0 < ns.length := by
    have := List.length_pos_of_mem ha
    rwa [List.length_map] at this
  rw [ex hpos] at cx
  rw [ey hpos] at cy
  exact cx.trans cy.symm
set_option maxRecDepth 100000 in
set_option maxHeartbeats 16000000 in
theorem whole_ {n c m d k f : Nat} {A B C : Option Addr} {ns : List S40} {ps : List S126} {w : World} [h : Sr k40 w A n c ns] [q : Sr k126 w C k f ps] (hz : nodesFit ns) :
    Calls Tryz.prog 22 #[.agg #[.slice A n c, .slice B m d, .slice C k f]] w fun e w' => ∃ b, e = .returned (.bool b) ∧ (b = true → m = 0 ∧ k ≤ 200 ∧ Whole (ns, ps)) ∧ BelL w w' := by
  obtain rfl := h.len
  obtain rfl := q.len
  have s1 := sr_l h
  have s2 := sr_l q
  have HZ := Aside0.mk hz
  clear h q hz
  by_cases hm0 : m = 0
  · subst hm0
    by_cases hp : ps.length ≤ 200
    · have hp2 : decide ((200 : Int) < (ps.length : Int)) = false := decide_eq_false (by omega)
      have HP := Aside0.mk hp
      clear hp
      cases hO : mayB ns ps
      · go_enter Tryz.func22, Tryz.ntmps22
        go_wp2_with (first | (with_reducible refine gate_dst (N := 1) rfl ?_; refine box_tc rfl (N := 1) rfl (cs := #[.slice A ns.length c, .slice B 0 d, .slice C ps.length f]) (t := 61) ?hr ?_; (case hr => first | (go_simp; done) | (go_simp; rfl)); intro g1 wg1 _ _ _) | (go_at_call 62; (with_reducible refine Calls.mono (refWorld_ (ns := ns) (ps := ps) HZ.out) ?_); rw [hO]; rintro e wv ⟨rfl, hbv⟩))
        go_ret
        exact ⟨false, rfl, fun e => (nomatch e), belL⟩
      · have hns := (mayB_parts hO).1
        have hN8 := (nodesB_len hns).2
        have HV0 := Aside0.mk (show ∀ (i : Nat) (hi : i < ns.length), ns[i].f1.f1.length ≤ 100000 ∧ ns[i].f1.f2.length ≤ 100000 from fun i hi => by
          have := viewB_len (nodeB_view ((nodesB_iff.1 hns).2.2.1 _ (List.getElem_mem hi)))
          omega)
        have HO := Aside0.mk hO
        have HK := Aside0.mk ((mayB_iff.1 hO).2.2.1)
        clear hns
        go_enter Tryz.func22, Tryz.ntmps22
        go_wp2_with (first | (with_reducible refine gate_dst (N := 1) rfl ?_; refine box_tc rfl (N := 1) rfl (cs := #[.slice A ns.length c, .slice B 0 d, .slice C ps.length f]) (t := 61) ?hr ?_; (case hr => first | (go_simp; done) | (go_simp; rfl)); intro g1 wg1 _ _ _) | (go_at_call 62; (with_reducible refine Calls.mono (refWorld_ (ns := ns) (ps := ps) HZ.out) ?_); rw [hO]; rintro e wv ⟨rfl, hbv⟩) | ((with_reducible refine gate_dst (N := 32) rfl ?_); refine make_int (k := ns.length) (by rfl) (by rfl) (by rfl) (by omega) ?_; intro gp wp hFp hRp hBp hGp))
        refine wp_letter fun wl hbl => ?_
        have B1 : BlkL wl g1 #[.slice A ns.length c, .slice B 0 d, .slice C ps.length f] 61 := blkL
        have Gp : GE w gp := inferInstance
        have Lp : LeB w.heap.size gp := ⟨Gp.out⟩
        have F1 : FrL kI 3 wl w.heap.size (Under wl.heap.size) (some ⟨gp, 0, none⟩) ns.length ns.length (fillZ ns.length 0) := by rw [show fillZ ns.length 0 = List.replicate ns.length 0 by unfold fillZ; simp]; exact frl
        have R1 : RowL wl gp := ⟨Row.out⟩
        have hwl : BelL w wl := belL
        have G1 : GE w g1 := inferInstance
        have Gp : GE w gp := inferInstance
        have n1p : NeB g1 gp := inferInstance
        clear hFp hRp hBp hGp
        go_loopg [5] ns.length (fun kq v5 w' => ∃ i : Nat, v5 = .int .i64 i ∧ i ≤ ns.length ∧ kq = ns.length - i ∧ BlkL w' g1 #[.slice A ns.length c, .slice B 0 d, .slice C ps.length f] 61 ∧ FrL kI 3 w' w.heap.size (Under w'.heap.size) (some ⟨gp, 0, none⟩) ns.length ns.length (fillZ ns.length i) ∧ RowL w' gp ∧ BelL w w')
        case atStart => exact ⟨0, rfl, Nat.zero_le _, rfl, blkL, F1, ⟨Row.out⟩, belL⟩
        case round =>
          obtain ⟨i, rfl, hi, rfl, hB, hF, hR, hbr⟩ := hrel
          by_cases hlt : i < ns.length
          · have q1 := cell_I (W := wr) (g := gp) (n := ns.length) (c := ns.length) (l := fillZ ns.length i) i (by rw [fillZ_len hi]; exact hlt)
            go_wp2
            have hF2 := set_int (W := wr) (g := gp) (n := ns.length) (c := ns.length) (l := fillZ ns.length i) inferInstance i hlt (i : Int)
            rw [fillZ_set hlt] at hF2
            go_roundg (ns.length - (i + 1))
            case measure => omega
            case rel => exact ⟨i + 1, by go_num, by omega, rfl, blkL, frl, ⟨Row.out⟩, belL⟩
          · obtain rfl : i = ns.length := by omega
            go_wp2
            have HP0 := Aside0.mk (part_start ns)
            generalize fillZ ns.length ns.length = z0 at HP0 hF
            go_loopg [6, 7, 8, 9, 10, 11] ns.length (fun kq v6 v7 v8 v9 v10 v11 w' => ∃ (t : Nat) (zs : List Int), v6 = .int .i64 t ∧ t ≤ ns.length ∧ kq = ns.length - t ∧ BlkL w' g1 #[.slice A ns.length c, .slice B 0 d, .slice C ps.length f] 61 ∧ FrL kI 3 w' w.heap.size (Under w'.heap.size) (some ⟨gp, 0, none⟩) ns.length ns.length zs ∧ RowL w' gp ∧ BelL w w' ∧ Aside0 (partOk ns zs) ∧ Aside0 (1 ≤ t → AllUp ns))
            case atStart => exact ⟨0, z0, rfl, Nat.zero_le _, rfl, blkL, frl, ⟨Row.out⟩, belL, HP0, ⟨fun h => absurd h (by decide)⟩⟩
            case round =>
              obtain ⟨t, zs, rfl, ht, rfl, hB, hF, hR, hbr2, HP1, HT⟩ := hrel
              by_cases htl : t < ns.length
              · go_wp2
                go_loopg [7, 8, 9, 10, 11] ns.length (fun kq v7 v8 v9 v10 v11 w' => ∃ (i : Nat) (zs : List Int), v7 = .int .i64 i ∧ i ≤ ns.length ∧ kq = ns.length - i ∧ BlkL w' g1 #[.slice A ns.length c, .slice B 0 d, .slice C ps.length f] 61 ∧ FrL kI 3 w' w.heap.size (Under w'.heap.size) (some ⟨gp, 0, none⟩) ns.length ns.length zs ∧ RowL w' gp ∧ BelL w w' ∧ Aside0 (partOk ns zs) ∧ Aside0 (∀ (j : Nat) (h : j < ns.length), j < i → ns[j].f0 = true))
                case atStart => exact ⟨0, zs, rfl, Nat.zero_le _, rfl, blkL, frl, ⟨Row.out⟩, belL, HP1, ⟨fun j h hj => absurd hj (Nat.not_lt_zero _)⟩⟩
                case round =>
                  obtain ⟨i, zs, rfl, hi, rfl, hB, hF, hR, hbr3, HP2, HU⟩ := hrel
                  by_cases hlt : i < ns.length
                  · obtain ⟨ad, X2, y2, X3, y3, X4, y4, X5, y5, rfl, x0, x1, x2, x3, x4, x5, r2, r3, r4, r5⟩ := el_T40 (W := wr) (A := A) (n := ns.length) (c := c) (l := ns) i hlt
                    have HV := Aside0.mk (show ns[i].f1.f1.length ≤ 100000 ∧ ns[i].f1.f2.length ≤ 100000 from HV0.out i hlt)
                    cases hu : ns[i].f0
                    · rw [hu] at x0
                      go_wp2
                      go_ret
                      exact ⟨false, rfl, fun e => (nomatch e), belL⟩
                    · have HU2 := Aside0.mk (show ∀ (j : Nat) (h : j < ns.length), j < i + 1 → ns[j].f0 = true from fun j h hj => by
                        rcases Nat.lt_or_eq_of_le (Nat.le_of_lt_succ hj) with h2 | h2
                        · exact HU.out j h h2
                        · subst h2; exact hu)
                      have HUI := Aside0.mk hu
                      rw [hu] at x0
                      clear hu
                      go_wp2_with (first | (go_at_call 63; (with_reducible refine Calls.mono (knows_ (ps := ns[i].f1.f1) (xs := ns[i].f1.f2) HV.out.1 HV.out.2) ?_); rintro e w3 ⟨Ak, ck, rfl, hFk, hbk⟩))
                      have hF3 : FrL kI 3 w3 w.heap.size (Under w3.heap.size) (some ⟨gp, 0, none⟩) ns.length ns.length zs := frl
                      have hR3 : RowL w3 gp := ⟨Row.out⟩
                      have hB3 : BlkL w3 g1 #[.slice (some ad) ns.length c, .slice B 0 d, .slice C ps.length f] 61 := blkL
                      have hbw3 : BelL w w3 := belL
                      have lgk : LtB gp wr.heap.size := inferInstance
                      have hln : (idsOf ns[i].f1.f1).length = ns[i].f1.f1.length := idsOf_len _
                      have HLN := Aside0.mk (show (idsOf ns[i].f1.f1 ++ ns[i].f1.f2).length = ns[i].f1.f1.length + ns[i].f1.f2.length by rw [List.length_append, hln])
                      have HKI := Aside0.mk (show ∀ y ∈ namedN1 ns[i], isNode ns y = true from HK.out ns[i] (List.getElem_mem hlt))
                      have HME := Aside0.mk (show namedN1 ns[i] = idsOf ns[i].f1.f1 ++ ns[i].f1.f2 from rfl)
                      generalize idsOf ns[i].f1.f1 ++ ns[i].f1.f2 = ids at hFk HLN HME
                      generalize hmk : ns[i].f1.f1.length + ns[i].f1.f2.length = mk at hFk HLN
                      have hmk2 : mk ≤ 200000 := by have := HV.out; omega
                      clear hln hmk
                      obtain ⟨bk, hbk9⟩ : ∃ bk, bk = wr.heap.size := ⟨_, rfl⟩
                      rw [← hbk9] at hFk lgk
                      clear hbk9
                      go_loopg [9, 10, 11] mk (fun kq v9 v10 v11 w' => ∃ (j : Nat) (zs : List Int), v9 = .int .i64 j ∧ j ≤ mk ∧ kq = mk - j ∧ BlkL w' g1 #[.slice (some ad) ns.length c, .slice B 0 d, .slice C ps.length f] 61 ∧ FrL kI 3 w' w.heap.size (Under w'.heap.size) (some ⟨gp, 0, none⟩) ns.length ns.length zs ∧ RowL w' gp ∧ BelL w w' ∧ Aside0 (partOk ns zs) ∧ FrL kI 3 w' bk (Both w'.heap.size gp) Ak mk ck ids)
                      case atStart => exact ⟨0, zs, rfl, Nat.zero_le _, rfl, blkL, frl, ⟨Row.out⟩, belL, HP2, frl_both⟩
                      case round =>
                        obtain ⟨j, zs, rfl, hj, rfl, hB, hF, hR, hbr5, HP3, hFi⟩ := hrel
                        by_cases hjl : j < mk
                        · have hjl2 : j < ids.length := by rw [HLN.out]; exact hjl
                          obtain ⟨ax, rfl, z0⟩ := el_I (W := wr) (A := Ak) (n := mk) (c := ck) (l := ids) j hjl2
                          have hmem : ids[j] ∈ namedN1 ns[i] := by rw [HME.out]; exact List.getElem_mem hjl2
                          obtain ⟨q, hq, eq, eid⟩ := atI_at (HKI.out _ hmem)
                          have HQ := Aside0.mk eq
                          have hiz : i < zs.length := by rw [HP3.out.1]; exact hlt
                          have hqz : q < zs.length := by rw [HP3.out.1]; exact hq
                          have q1 := cell_I (W := wr) (g := gp) (n := ns.length) (c := ns.length) (l := zs) i hiz
                          have q2 := cell_I (W := wr) (g := gp) (n := ns.length) (c := ns.length) (l := zs) q hqz
                          have HST := Aside0.mk (fun (p : Int) (hp : p = zs[i] ∨ p = zs[q]) => part_step HP3.out hlt hq hiz hqz ⟨ns[i], List.getElem_mem hlt, HUI.out, rfl, by rw [show nid ns[q] = ids[j] from eid]; exact hmem⟩ hp)
                          clear hmem eq eid
                          generalize hzi : zs[i] = a1 at q1 HST
                          generalize hzq : zs[q] = a2 at q2 HST
                          clear hzi hzq
                          go_upto_region 21 with (fail)
                          (refine wp_region_bel (by kernel_rfl) (by kernel_rfl) ?_; (repeat (first | go_big_quiet_skip | (go_big_quiet_want; first | (go_big_quiet_op; go_big_quiet_on) | (apply Exists.intro; refine ⟨fun wq hq => ?_, ?_⟩; (focus (unfold Oper.quietAt; go_simp; first | done | exact ⟨rfl, rfl⟩ | exact rfl | (first | (go_at_call 64; refine Calls.mono (at_ (l := ns)) ?_; rintro e w1 ⟨rfl, hb⟩; exact ⟨by rw [HQ.out], belL⟩)))); (try simp only [Act.put, List.setIfInBounds_toArray, List.set_cons_zero, List.set_cons_succ]); go_big_quiet_on)))); refine wpQuiet_nil ?_; intro w7 hb7)
                          go_upto_region 22 with (fail)
                          (refine wp_region_bel (by kernel_rfl) (by kernel_rfl) ?_; (repeat (first | go_big_quiet_skip | (go_big_quiet_want; first | (go_big_quiet_op; go_big_quiet_on) | (apply Exists.intro; refine ⟨fun wq hq => ?_, ?_⟩; (focus (unfold Oper.quietAt; go_simp; first | done | exact ⟨rfl, rfl⟩ | exact rfl | (first | fail))); (try simp only [Act.put, List.setIfInBounds_toArray, List.set_cons_zero, List.set_cons_succ]); go_big_quiet_on)))); refine wpQuiet_nil ?_; intro w7 hb7)
                          go_upto_region 24 with (fail)
                          have HPM := Aside0.mk (HST.out (min a1 a2) (by omega))
                          clear HST q1 q2
                          generalize min a1 a2 = p at HPM ⊢
                          have hF4 := set_int (W := w7) (g := gp) (n := ns.length) (c := ns.length) (l := zs) inferInstance i hlt p
                          have hF5 : FrL kI 3 (w7.setCell ⟨gp, i, none⟩ (.int .i64 p)) w.heap.size _ (some ⟨gp, 0, none⟩) ns.length ns.length (zs.set i p) := ⟨hF4.len, hF4.le, hF4.R⟩
                          clear hF4
                          refine wp_letter fun w5 hb5 => ?_
                          have hF6 : FrL kI 3 w5 w.heap.size (Under w5.heap.size) (some ⟨gp, 0, none⟩) ns.length ns.length (zs.set i p) := frl
                          have hR6 : RowL w5 gp := ⟨Row.out⟩
                          have hB6 : BlkL w5 g1 #[.slice (some ad) ns.length c, .slice B 0 d, .slice C ps.length f] 61 := blkL
                          have hbw6 : BelL w w5 := belL
                          have hFi6 : FrL kI 3 w5 bk (Both w5.heap.size gp) (some ax) mk ck ids := frl_both
                          have q3 := cell_I (W := w5) (g := gp) (n := ns.length) (c := ns.length) (l := zs.set i p) q (by rw [List.length_set]; exact hqz)
                          clear hF5 hb5
                          go_wp2
                          have hF7 := set_int (W := w5) (g := gp) (n := ns.length) (c := ns.length) (l := zs.set i p) inferInstance q hq p
                          go_roundg (mk - (j + 1))
                          case measure => omega
                          case rel => exact ⟨j + 1, (zs.set i p).set q p, by go_num, by omega, rfl, blkL, frl, ⟨Row.out⟩, belL, HPM, frl_both⟩
                        · go_wp2
                          go_roundg (ns.length - (i + 1))
                          case measure => omega
                          case rel => exact ⟨i + 1, zs, by go_num, by omega, rfl, blkL, frl, ⟨Row.out⟩, belL, HP3, HU2⟩
                  · obtain rfl : i = ns.length := by omega
                    have HAU := Aside0.mk (show AllUp ns from fun x hx => by
                      obtain ⟨j, hj, rfl⟩ := List.getElem_of_mem hx
                      exact HU.out j hj hj)
                    go_wp2
                    go_roundg (ns.length - (t + 1))
                    case measure => omega
                    case rel => exact ⟨t + 1, zs, by go_num, by omega, rfl, blkL, frl, ⟨Row.out⟩, belL, HP2, ⟨fun _ => HAU.out⟩⟩
              · obtain rfl : t = ns.length := by omega
                go_wp2
                go_loopg [12] ns.length (fun kq v12 w' => ∃ i : Nat, v12 = .int .i64 i ∧ i ≤ ns.length ∧ kq = ns.length - i ∧ FrL kI 3 w' w.heap.size (Under w'.heap.size) (some ⟨gp, 0, none⟩) ns.length ns.length zs ∧ BelL w w' ∧ Aside0 (∀ (j : Nat) (h : j < zs.length), j < i → zs[j] = 0))
                case atStart => exact ⟨0, rfl, Nat.zero_le _, rfl, frl, belL, ⟨fun j h hj => absurd hj (Nat.not_lt_zero _)⟩⟩
                case round =>
                  obtain ⟨i, rfl, hi, rfl, hF, hbr4, H0⟩ := hrel
                  by_cases hlt : i < ns.length
                  · have hiz : i < zs.length := by rw [HP1.out.1]; exact hlt
                    have q1 := cell_I (W := wr) (g := gp) (n := ns.length) (c := ns.length) (l := zs) i hiz
                    cases h0 : (zs[i] != 0)
                    · have HN := Aside0.mk (show ∀ (j : Nat) (h : j < zs.length), j < i + 1 → zs[j] = 0 from fun j h hj => by
                        rcases Nat.lt_or_eq_of_le (Nat.le_of_lt_succ hj) with h2 | h2
                        · exact H0.out j h h2
                        · subst h2; simpa using h0)
                      go_wp2
                      go_roundg (ns.length - (i + 1))
                      case measure => omega
                      case rel => exact ⟨i + 1, by go_num, by omega, rfl, frl, belL, HN⟩
                    · go_wp2
                      go_ret
                      exact ⟨false, rfl, fun e => (nomatch e), belL⟩
                  · have HW := Aside0.mk (show Whole (ns, ps) from part_whole HP1.out HO.out (HT.out (nodesB_len (mayB_parts HO.out).1).1) (fun j hj => H0.out j hj (by have := HP1.out.1; omega)))
                    go_wp2
                    go_ret
                    exact ⟨true, rfl, fun _ => ⟨by first | rfl | trivial, HP.out, HW.out⟩, belL⟩
    · have hp2 : decide ((200 : Int) < (ps.length : Int)) = true := decide_eq_true (by omega)
      go_enter Tryz.func22, Tryz.ntmps22
      go_wp2_with (first | (with_reducible refine gate_dst (N := 1) rfl ?_; refine box_tc rfl (N := 1) rfl (cs := #[.slice A ns.length c, .slice B 0 d, .slice C ps.length f]) (t := 61) ?hr ?_; (case hr => first | (go_simp; done) | (go_simp; rfl)); intro g1 wg1 _ _ _))
      go_ret
      exact ⟨false, rfl, fun e => (nomatch e), belL⟩
  · have hm2 : decide ((0 : Int) < (m : Int)) = true := decide_eq_true (by omega)
    go_enter Tryz.func22, Tryz.ntmps22
    go_wp2_with (first | (with_reducible refine gate_dst (N := 1) rfl ?_; refine box_tc rfl (N := 1) rfl (cs := #[.slice A ns.length c, .slice B m d, .slice C ps.length f]) (t := 61) ?hr ?_; (case hr => first | (go_simp; done) | (go_simp; rfl)); intro g1 wg1 _ _ _))
    go_ret
    exact ⟨false, rfl, fun e => (nomatch e), belL⟩
end Go.Proofs.YtljipbmmgcccnaaGreat.T
end
section
namespace Go.Proofs.YtljipbmmgcccnaaGreat.T
open Go.RowKit Go.Proofs.YtljipbmmgcccnaaGreatW.PrintWords Go.Proofs.YtljipbmmgcccnaaGreatW.PrintLast Go.Proofs.YtljipbmmgcccnaaGreatW.PrintMore
attribute [local go_sem] cell_tc frozen_tc max2_int min2_int
attribute [local go_sem ↓] Go.wp_at_zero Go.wp_at_succ
set_option linter.unusedVariables false
set_option linter.unusedSimpArgs false
set_option synthInstance.maxHeartbeats 400000
set_option synthInstance.maxSize 512
attribute [local go_sem] cell_tc2
theorem whole_at {s : WS} (h : Whole s) (t : Nat) (ht : 6 ≤ t) : ∃ n : List S40, roundsW t s = (n, []) ∧ Calm n ∧ AllUp n ∧ Fresh n ∧ n.length = s.1.length ∧ n.map nid = s.1.map nid := by
  obtain ⟨ns, w, e1, _, e2⟩ := start_law h
  obtain ⟨d, rfl⟩ : ∃ d, t = d + 1 := ⟨t - 1, by omega⟩
  have m : (rounds (d + 1) ns).map nid = s.1.map nid := (rounds_map w.ok (d + 1)).trans e1
  exact ⟨rounds (d + 1) ns, e2 d, rounds_calm w.ok _, allUp_rounds w.ok w.up _, whole_fresh w _ ht, by have := congrArg List.length m; simpa using this, m⟩
theorem rounds1_ {n c d k f : Nat} {A B C : Option Addr} {ns : List S40} {ps : List S126} {w : World} [h : Sr k40 w A n c ns] [q : Sr k126 w C k f ps] (hO : OkW (ns, ps)) :
    Calls Tryz.prog 23 #[.agg #[.slice A n c, .slice B 0 d, .slice C k f], .int .i64 1] w fun e w' => ∃ v, e = .returned (.tuple #[v, .bool true]) ∧ WorldR w' w.heap.size v (roundsW 1 (ns, ps)).1 (roundsW 1 (ns, ps)).2 ∧ BelL w w' :=
  rounds_ (many := 1) hO (by decide) (by decide)
theorem rounds8_ {n c d k f : Nat} {A B C : Option Addr} {ns : List S40} {ps : List S126} {w : World} [h : Sr k40 w A n c ns] [q : Sr k126 w C k f ps] (hO : OkW (ns, ps)) :
    Calls Tryz.prog 23 #[.agg #[.slice A n c, .slice B 0 d, .slice C k f], .int .i64 8] w fun e w' => ∃ v, e = .returned (.tuple #[v, .bool true]) ∧ WorldR w' w.heap.size v (roundsW 8 (ns, ps)).1 (roundsW 8 (ns, ps)).2 ∧ BelL w w' :=
  rounds_ (many := 8) hO (by decide) (by decide)
end Go.Proofs.YtljipbmmgcccnaaGreat.T
end
