/- Words and lemmas that the claim's proof names, part 15: what the program's functions answer, at the inputs that each theorem's premises name. Conditions: each theorem's own premises. -/
import Derived.Test.YtljipbmmgcccnaaGreatKP14
section
namespace Go.Proofs.YtljipbmmgcccnaaGreat.T
open Go.RowKit Go.Proofs.YtljipbmmgcccnaaGreatW.PrintWords Go.Proofs.YtljipbmmgcccnaaGreatW.PrintLast Go.Proofs.YtljipbmmgcccnaaGreatW.PrintMore
attribute [local go_sem] cell_tc frozen_tc max2_int min2_int
attribute [local go_sem ↓] Go.wp_at_zero Go.wp_at_succ
set_option linter.unusedVariables false
set_option linter.unusedSimpArgs false
set_option synthInstance.maxHeartbeats 400000
set_option synthInstance.maxSize 512
section
section
variable {P : Program} {ops : Array Oper} {Q : Exit → Act → World → Prop} {S : World → Prop}
def lexH (P : Program) (ops : Array Oper) (S : World → Prop) (Q : Exit → Act → World → Prop) : List Oper → Nat → Array Bool → Act → World → Prop
 | [], _, _, a, w => Q .normal a w
 | o :: rest, k, listed, a, w =>
   if Region.wanted o (yielded ops a.tmps) = true then
    (∃ v, (∀ w', S w' → (execOp a.eval o).run P w' = .ok (.value v) w') ∧ lexH P ops S Q rest (k + 1) (listed.setIfInBounds k true) (a.put o.dst v) w) ∨
    (Region.ready .any ops listed = [k] ∧ ∀ K : Act → World → Prop, (∀ a' w', S w' → lexH P ops S Q rest (k + 1) (listed.setIfInBounds k true) a' w' → K a' w') → o.wp P a w K Q)
   else lexH P ops S Q rest (k + 1) (listed.setIfInBounds k true) (a.put o.dst undef) w
structure LexW (P : Program) (ops : Array Oper) (S : World → Prop) (Q : Exit → Act → World → Prop) (l : List Oper) (k : Nat) (listed : Array Bool) (a : Act) (w : World) : Prop where out : lexH P ops S Q l k listed a w
theorem lexH_skip {o : Oper} {rest : List Oper} {k : Nat} {listed : Array Bool} {a : Act} {w : World} (hw : Region.wanted o (yielded ops a.tmps) = false) (h : LexW P ops S Q rest (k + 1) (listed.setIfInBounds k true) (a.put o.dst undef) w) : LexW P ops S Q (o :: rest) k listed a w := by
 refine ⟨?_⟩
 unfold lexH
 rw [if_neg (by rw [hw]; exact Bool.false_ne_true)]
 exact h.out
theorem lexH_take {o : Oper} {rest : List Oper} {k : Nat} {listed : Array Bool} {a : Act} {w : World} {v : Value} (hw : Region.wanted o (yielded ops a.tmps) = true) (hv : ∀ w', S w' → (execOp a.eval o).run P w' = .ok (.value v) w') (h : LexW P ops S Q rest (k + 1) (listed.setIfInBounds k true) (a.put o.dst v) w) : LexW P ops S Q (o :: rest) k listed a w := by
 refine ⟨?_⟩
 unfold lexH
 rw [if_pos hw]
 exact .inl ⟨v, hv, h.out⟩
theorem lexH_call {o : Oper} {rest : List Oper} {k : Nat} {listed : Array Bool} {a : Act} {w : World} (hw : Region.wanted o (yielded ops a.tmps) = true) (hr : Region.ready .any ops listed = [k]) (h : ∀ K : Act → World → Prop, Shut (∀ a' w', S w' → LexW P ops S Q rest (k + 1) (listed.setIfInBounds k true) a' w' → K a' w') → o.wp P a w K Q) : LexW P ops S Q (o :: rest) k listed a w := by
 refine ⟨?_⟩
 unfold lexH
 rw [if_pos hw]
 exact .inr ⟨hr, fun K hK => h K fun a' w' hS hl => hK a' w' hS hl.out⟩
theorem lexH_nil {k : Nat} {listed : Array Bool} {a : Act} {w : World} (h : Q .normal a w) : LexW P ops S (NoPanic Q) [] k listed a w := ⟨NoPanic.normal h⟩
theorem lexH_any (hs : Region.noSelect ops = true) (hQ : ∀ c a d v w, Q (.panic c) (a.put d v) w → Q (.panic c) a w) : ∀ (l : List Oper) (k : Nat) (listed : Array Bool) (a : Act) (w : World), (∀ j : Nat, l[j]? = ops[k + j]?) →
 Region.lexFrom .any ops l.length k listed = true → S w → lexH P ops S Q l k listed a w → wpAnyH P .any ops Q S l.length listed a w
 | [], _, _, _, _, _, hB, _, h => wpAnyH_done (by simpa [Region.lexFrom] using hB) h _
 | o :: l, k, listed, a, w, hl, hB, hS, h => by
   have h0 : ops[k]? = some o := by simpa using (hl 0).symm
   have hl2 : ∀ j : Nat, l[j]? = ops[k + 1 + j]? := fun j => by have := hl (j + 1); simpa [Nat.add_assoc, Nat.add_comm 1 j] using this
   simp only [List.length_cons, Region.lexFrom, Bool.and_eq_true] at hB
   obtain ⟨⟨hr, hf⟩, hB'⟩ := hB
   unfold lexH at h
   by_cases hw : Region.wanted o (yielded ops a.tmps) = true
   ·rw [if_pos hw] at h
    rcases h with ⟨v, hv, h⟩ | ⟨hready, h⟩
    ·exact wpAnyH_take h0 hs hf hr (fun c a w => hQ c a _ _ w) (.inl ⟨hw, hv⟩) hS (lexH_any hs hQ l (k + 1) _ _ w hl2 hB' hS h)
    ·refine wpAnyH_ready hready (by simp) (AllReadyH.cons h0 (fun K hK => ?_) AllReadyH.nil)
     rw [if_pos hw]
     exact h K fun a' w' hS' h' => hK.out a' w' hS' fun _ => lexH_any hs hQ l (k + 1) _ a' w' hl2 hB' hS' h'
   ·rw [if_neg hw] at h
    exact wpAnyH_take h0 hs hf hr (fun c a w => hQ c a _ _ w) (.inr ⟨by simpa using hw, rfl⟩) hS (lexH_any hs hQ l (k + 1) _ _ w hl2 hB' hS h)
theorem wp_region_lex {id : Nat} {Q : Exit → Act → World → Prop} {a : Act} {w : World} {l : List Oper} (hm : P.follows .mixedOrders = true) (hB : Region.lexB .any l.toArray = true) (hS : S w.drew)
 (h : LexW P l.toArray S (NoPanic Q) l 0 (Array.replicate l.length false) a w.drew) : (Code.region id l.toArray true).wp P Q a w := by
 refine wp_region_noPanic (wp_region_held_drew (S := S) hm hS fun hS2 => ?_)
 simp only [Region.lexB, Bool.and_eq_true] at hB
 have hl : l.toArray.size = l.length := by simp
 have h1 := lexH_any (P := P) (Q := NoPanic Q) (S := S) hB.1 (fun _ _ _ _ _ h => h) l 0 (Array.replicate l.length false) a w.drew (fun j => by simp) (by simpa [hl] using hB.2) hS2 h.out
 rw [hl]
 exact h1
theorem box_wp {o : Oper} {a : Act} {W : World} {K : Act → World → Prop} {N : Tmp} (_hd : o.dst = some N) {cs : Array Value} {t : TypeId}
 (hrun : (execOp a.eval o).run P W = .ok (.value (.pointer (some ⟨W.heap.size, 0, none⟩))) (W.alloc (.cells cs t (0, 0))))
 (h : ∀ g w1, BlkL w1 g cs t → BelL W w1 → GEL W g → K (a.put o.dst (.pointer (some ⟨g, 0, none⟩))) w1) : o.wp P a W K Q := by
 unfold Oper.wp
 rw [hrun]
 exact h _ _ ⟨blk_new W _⟩ ⟨below_alloc (Below.refl _ _) _⟩ ⟨Nat.le_refl _⟩
structure LexR (P : Program) (ops : Array Oper) (S : World → Prop) (Q : Exit → Act → World → Prop) (fuel : Nat) (listed : Array Bool) (a : Act) (w : World) : Prop where out : wpAnyH P .any ops (NoPanic Q) S fuel listed a w
theorem lexR_take {i fuel : Nat} {oi : Oper} {v : Value} {listed : Array Bool} {a : Act} {w : World} (hi : ops[i]? = some oi) (hs : Region.noSelect ops = true) (hf : Region.free .any ops listed i = true) (hr : (Region.ready .any ops listed).contains i = true)
 (hw : Region.wanted oi (yielded ops a.tmps) = true) (hS : S w) (hv : ∀ w', S w' → (execOp a.eval oi).run P w' = .ok (.value v) w') (h : LexR P ops S Q fuel (listed.setIfInBounds i true) (a.put oi.dst v) w) : LexR P ops S Q (fuel + 1) listed a w :=
 ⟨wpAnyH_take hi hs hf hr (fun _ _ _ h => h) (.inl ⟨hw, hv⟩) hS h.out⟩
theorem lexR_one {i fuel : Nat} {o : Oper} {listed : Array Bool} {a : Act} {w : World} (hr : Region.ready .any ops listed = [i]) (ho : ops[i]? = some o) (hw : Region.wanted o (yielded ops a.tmps) = true)
 (h : ∀ K : Act → World → Prop, Shut (∀ a' w', S w' → LexR P ops S Q fuel (listed.setIfInBounds i true) a' w' → K a' w') → o.wp P a w K (NoPanic Q)) : LexR P ops S Q (fuel + 1) listed a w :=
 ⟨wpAnyH_ready hr (by simp) (AllReadyH.cons ho (fun K' hK => by rw [if_pos hw]; exact h K' fun a' w' hS hl => hK.out a' w' hS fun _ => hl.out) AllReadyH.nil)⟩
theorem lexR_two {i j fuel : Nat} {o o2 : Oper} {listed : Array Bool} {a : Act} {w : World} (hr : Region.ready .any ops listed = [i, j]) (ho : ops[i]? = some o) (ho2 : ops[j]? = some o2) (hw : Region.wanted o (yielded ops a.tmps) = true) (hw2 : Region.wanted o2 (yielded ops a.tmps) = true)
 (h : ∀ K : Act → World → Prop, Shut (∀ a' w', S w' → LexR P ops S Q fuel (listed.setIfInBounds i true) a' w' → K a' w') → o.wp P a w K (NoPanic Q))
 (h2 : ∀ K : Act → World → Prop, Shut (∀ a' w', S w' → LexR P ops S Q fuel (listed.setIfInBounds j true) a' w' → K a' w') → o2.wp P a w K (NoPanic Q)) : LexR P ops S Q (fuel + 1) listed a w :=
 ⟨wpAnyH_ready hr (by simp) (AllReadyH.cons ho (fun K' hK => by rw [if_pos hw]; exact h K' fun a' w' hS hl => hK.out a' w' hS fun _ => hl.out) (AllReadyH.cons ho2 (fun K' hK => by rw [if_pos hw2]; exact h2 K' fun a' w' hS hl => hK.out a' w' hS fun _ => hl.out) AllReadyH.nil))⟩
theorem lexR_done {listed : Array Bool} {a : Act} {w : World} {fuel : Nat} (hr : Region.ready .any ops listed = []) (h : Q .normal a w) : LexR P ops S Q fuel listed a w := ⟨wpAnyH_done hr (NoPanic.normal h) fuel⟩
theorem wp_region_any_lex {id : Nat} {Q : Exit → Act → World → Prop} {a : Act} {w : World} {l : List Oper} (n : Nat) (hn : l.toArray.size = n) (hm : P.follows .mixedOrders = true) (hS : S w.drew)
 (h : LexR P l.toArray S Q n (Array.replicate n false) a w.drew) : (Code.region id l.toArray true).wp P Q a w := by
 subst hn
 exact wp_region_noPanic (wp_region_held_drew (S := S) hm hS fun _ => h.out)
end
end
section
attribute [local go_sem] cell_tc2
attribute [local go_sem high] eqA46 eqA98 eqA77 eqA48
def nodesFit (l : List S40) : Prop := ∀ x ∈ l, x.f1.f1.length * 16 ≤ 140737488351232 ∧ nodeSz x ≤ 1000000000000000
def refAt (ns : List S40) (i : Nat) : Bool := nodeB (ns.getD i z40) && ((decide (i = 0) || decide ((ns.getD (i - 1) z40).f1.f0 < (ns.getD i z40).f1.f0)) && ((idsOf (ns.getD i z40).f1.f1).all (isNode ns) && (ns.getD i z40).f1.f2.all (isNode ns)))
theorem world_split (ns : List S40) (ms : List S126) : mayB ns ms = ((List.range ns.length).all (refAt ns) && (decide (1 ≤ ns.length) && (decide (ns.length ≤ 8) && (ms.all (packB ns) && queueB ms)))) := by
 rw [Bool.eq_iff_iff, mayB_iff]
 simp only [Bool.and_eq_true, List.all_eq_true, List.mem_range, decide_eq_true_eq]
 have hp : (∀ m ∈ ms, ∀ y ∈ namedM1 m, isNode ns y = true) ↔ ∀ m ∈ ms, packB ns m = true := by
  refine forall_congr' fun m => forall_congr' fun _ => ?_
  unfold namedM1 packB
  simp only [List.mem_append, List.mem_cons, List.not_mem_nil, or_false, Bool.and_eq_true, List.all_eq_true]
  constructor
  ·intro h
   exact ⟨h _ (.inl (.inl rfl)), h _ (.inl (.inr rfl)), fun y hy => h y (.inr hy)⟩
  ·rintro ⟨h1, h2, h3⟩ y ((rfl | rfl) | hy)
   ·exact h1
   ·exact h2
   ·exact h3 y hy
 rw [hp]
 constructor
 ·rintro ⟨h1, h2, h3, h4⟩
  refine ⟨fun i hi => ?_, (nodesB_len h1).1, (nodesB_len h1).2, h4, h2⟩
  obtain ⟨a1, a2⟩ := nodesB_at h1 i hi
  unfold refAt
  rw [getD40 hi, a1]
  have h5 := h3 ns[i] (List.getElem_mem hi)
  unfold namedN1 at h5
  have h6 : (idsOf ns[i].f1.f1).all (isNode ns) = true := List.all_eq_true.2 fun y hy => h5 y (List.mem_append_left _ hy)
  have h7 : ns[i].f1.f2.all (isNode ns) = true := List.all_eq_true.2 fun y hy => h5 y (List.mem_append_right _ hy)
  rw [h6, h7]
  rcases a2 with a2 | a2
  ·simp [a2]
  ·rw [decide_eq_true a2]; simp
 ·rintro ⟨h1, h2, h3, h4, h5⟩
  have hat : ∀ (i : Nat) (hi : i < ns.length), nodeB ns[i] = true ∧ (i = 0 ∨ (ns.getD (i - 1) z40).f1.f0 < ns[i].f1.f0) ∧ ∀ y ∈ namedN1 ns[i], isNode ns y = true := by
   intro i hi
   have h := h1 i hi
   unfold refAt at h
   rw [getD40 hi] at h
   simp only [Bool.and_eq_true, Bool.or_eq_true, decide_eq_true_eq, List.all_eq_true] at h
   refine ⟨h.1, h.2.1, fun y hy => ?_⟩
   rcases List.mem_append.1 hy with hy | hy
   ·exact h.2.2.1 y hy
   ·exact h.2.2.2 y hy
  refine ⟨?_, h5, fun x hx => ?_, h4⟩
  ·unfold nodesB
   simp only [Bool.and_eq_true, List.all_eq_true, List.mem_range, decide_eq_true_eq]
   exact ⟨fun i hi => nodeAt_yes hi (hat i hi).1 (hat i hi).2.1, h2, h3⟩
  ·obtain ⟨i, hi, rfl⟩ := List.getElem_of_mem hx
   exact (hat i hi).2.2
theorem refAt_stop {ns : List S40} {ms : List S126} {i : Nat} (h : i < ns.length) (hp : refAt ns i = false) : mayB ns ms = false := by
 rw [world_split, range_no h hp]
 rfl
set_option maxRecDepth 100000 in
set_option maxHeartbeats 16000000 in
theorem refWorld_ {A B C : Option Addr} {n c d k f : Nat} {ns : List S40} {ps : List S126} {w : World} [h : Sr k40 w A n c ns] [q : Sr k126 w C k f ps] (hz : nodesFit ns) :
 Calls Tryz.prog 62 #[.agg #[.slice A n c, .slice B 0 d, .slice C k f]] w fun e w' => e = .returned (.bool (mayB ns ps)) ∧ BelL w w' := by
 obtain rfl := h.len
 obtain rfl := q.len
 have HS := sr_l h
 have HQ := sr_l q
 have hlen : ns.length ≤ 9223372036854775807 := h.C.2.1
 have HZ := Aside0.mk hz
 clear h q hz
 go_enter Tryz.func62, Tryz.ntmps62
 go_wp2_with (first | (with_reducible refine box_tc rfl (N := 1) rfl (cs := #[.slice A ns.length c, .slice B 0 d, .slice C ps.length f]) (t := 61) ?hr ?_; (case hr => go_simp <;> rfl); intro g1 wg1 _ _ _))
 refine wp_letter fun wl hbl => ?_
 have B1 : BlkL wl g1 #[.slice A ns.length c, .slice B 0 d, .slice C ps.length f] 61 := blkL
 have S1 : SrL k40 wl A ns.length c ns := sr_l inferInstance
 have S2 : SrL k126 wl C ps.length f ps := sr_l inferInstance
 have hwl : BelL w wl := belL
 go_loopg [3, 4] ns.length (fun kq v3 v4 w' => ∃ i : Nat, v3 = .int .i64 i ∧ i ≤ ns.length ∧ kq = ns.length - i ∧ Aside0 ((List.range i).all (refAt ns) = true) ∧ BelL wl w')
 case atStart => exact ⟨0, rfl, Nat.zero_le _, rfl, ⟨by simp⟩, belL⟩
 case round =>
  obtain ⟨i, rfl, hi, rfl, HA, hbr⟩ := hrel
  by_cases hlt : i < ns.length
  ·obtain ⟨ad, X2, y2, X3, y3, X4, y4, X5, y5, rfl, x0, x1, x2, x3, x4, x5, r2, r3, r4, r5⟩ := el_T40 (W := wr) (A := A) (n := ns.length) (c := c) (l := ns) i hlt
   have HZI := Aside0.mk (show ns[i].f1.f1.length * 16 ≤ 140737488351232 ∧ ns[i].f1.f1.length + ns[i].f1.f2.length + ns[i].f2.length + ns[i].f3.length ≤ 1000000000000000 from HZ.out ns[i] (List.getElem_mem hlt))
   cases h1 : nodeB ⟨ns[i].f0, ⟨ns[i].f1.f0, ns[i].f1.f1, ns[i].f1.f2⟩, ns[i].f2, ns[i].f3⟩
   ·have HF := Aside0.mk (show mayB ns ps = false from refAt_stop hlt (by unfold refAt; rw [getD40 hlt]; rw [show nodeB ns[i] = false from h1]; rfl))
    go_upto_region 5 with (first | (with_reducible refine box_tc rfl (N := 4) rfl (cs := #[.bool false, .int .i64 0, .slice none 0 0, .slice none 0 0, .slice none 0 0, .slice none 0 0]) (t := 40) ?hr ?_; (case hr => go_simp <;> rfl); intro g4 wg4 _ _ _))
    refine wp_letter fun w6 hb6 => ?_
    refine wp_region_lex (S := fun w_ => BelL w6 w_) (by kernel_rfl) (by kernel_rfl) belL ?_
    (refine lexH_take (v := ?_) (by kernel_rfl) ?_ ?_; rotate_left; (focus (intro wq (hSw : BelL w6 wq); (first | (go_simp; done) | (go_simp; with_reducible rfl)); done)); (try simp only [Act.put, put3]))
    (refine lexH_call (by kernel_rfl) (by kernel_rfl) (fun K hK => ?_); go_simp; (go_at_call 112; (with_reducible refine cM (refNode_ (n := ns[i].f1.f1.length) (m := ns[i].f1.f2.length) (ni := ns[i].f2.length) (nl := ns[i].f3.length) (ps := ns[i].f1.f1) (xs := ns[i].f1.f2) (is := ns[i].f2) (ls := ns[i].f3) HZI.out.1 HZI.out.2) ?_); rw [h1]; rintro e wb ⟨rfl, hb⟩); refine hK.out _ _ belL ?_; clear hK K; (try simp only [Act.put, put3]))
    iterate 2 (refine lexH_take (v := ?_) (by kernel_rfl) ?_ ?_; rotate_left; (focus (intro wq (hSw : BelL w6 wq); (first | (go_simp; done) | (go_simp; with_reducible rfl)); done)); (try simp only [Act.put, put3]))
    iterate 16 (refine lexH_skip (by kernel_rfl) ?_; (try simp only [Act.put, put3]))
    iterate 2 (refine lexH_take (v := ?_) (by kernel_rfl) ?_ ?_; rotate_left; (focus (intro wq (hSw : BelL w6 wq); (first | (go_simp; done) | (go_simp; with_reducible rfl)); done)); (try simp only [Act.put, put3]))
    iterate 8 (refine lexH_skip (by kernel_rfl) ?_; (try simp only [Act.put, put3]))
    iterate 2 (refine lexH_take (v := ?_) (by kernel_rfl) ?_ ?_; rotate_left; (focus (intro wq (hSw : BelL w6 wq); (first | (go_simp; done) | (go_simp; with_reducible rfl)); done)); (try simp only [Act.put, put3]))
    iterate 7 (refine lexH_skip (by kernel_rfl) ?_; (try simp only [Act.put, put3]))
    (refine lexH_take (v := ?_) (by kernel_rfl) ?_ ?_; rotate_left; (focus (intro wq (hSw : BelL w6 wq); (first | (go_simp; done) | (go_simp; with_reducible rfl)); done)); (try simp only [Act.put, put3]))
    refine lexH_nil ?_
    go_wp2
    go_ret
    exact ⟨by rw [HF.out]; rfl, belL⟩
   by_cases h0 : i = 0
   ·have hgt : decide ((0 : Int) < (i : Int)) = false := decide_eq_false (by omega)
    have hgn : decide (0 < i) = false := decide_eq_false (by omega)
    have H0 := Aside0.mk (decide_eq_true h0)
    clear h0
    cases h4 : (idsOf ns[i].f1.f1).all (isNode ns)
    ·have HF := Aside0.mk (show mayB ns ps = false from refAt_stop hlt (by unfold refAt; rw [getD40 hlt]; rw [h4]; simp))
     go_upto_region 5 with (first | (with_reducible refine box_tc rfl (N := 4) rfl (cs := #[.bool false, .int .i64 0, .slice none 0 0, .slice none 0 0, .slice none 0 0, .slice none 0 0]) (t := 40) ?hr ?_; (case hr => go_simp <;> rfl); intro g4 wg4 _ _ _))
     refine wp_letter fun w6 hb6 => ?_
     refine wp_region_lex (S := fun w_ => BelL w6 w_) (by kernel_rfl) (by kernel_rfl) belL ?_
     (refine lexH_take (v := ?_) (by kernel_rfl) ?_ ?_; rotate_left; (focus (intro wq (hSw : BelL w6 wq); (first | (go_simp; done) | (go_simp; with_reducible rfl)); done)); (try simp only [Act.put, put3]))
     (refine lexH_call (by kernel_rfl) (by kernel_rfl) (fun K hK => ?_); go_simp; (go_at_call 112; (with_reducible refine cM (refNode_ (n := ns[i].f1.f1.length) (m := ns[i].f1.f2.length) (ni := ns[i].f2.length) (nl := ns[i].f3.length) (ps := ns[i].f1.f1) (xs := ns[i].f1.f2) (is := ns[i].f2) (ls := ns[i].f3) HZI.out.1 HZI.out.2) ?_); rw [h1]; rintro e wb ⟨rfl, hb⟩); refine hK.out _ _ belL ?_; clear hK K; (try simp only [Act.put, put3]))
     iterate 5 (refine lexH_take (v := ?_) (by kernel_rfl) ?_ ?_; rotate_left; (focus (intro wq (hSw : BelL w6 wq); (first | (go_simp; done) | (go_simp; with_reducible rfl)); done)); (try simp only [Act.put, put3]))
     iterate 12 (refine lexH_skip (by kernel_rfl) ?_; (try simp only [Act.put, put3]))
     iterate 8 (refine lexH_take (v := ?_) (by kernel_rfl) ?_ ?_; rotate_left; (focus (intro wq (hSw : BelL w6 wq); (first | (go_simp; done) | (go_simp; with_reducible rfl)); done)); (try simp only [Act.put, put3]))
     (refine lexH_call (by kernel_rfl) (by kernel_rfl) (fun K hK => ?_); go_simp; (go_at_call 114; (with_reducible refine cM (refNames_ (ps := ns[i].f1.f1) HZI.out.1) ?_); rintro e wn ⟨An, cn, rfl, hFn, hbn⟩; have hln : (idsOf ns[i].f1.f1).length = ns[i].f1.f1.length := idsOf_len _; have hFn2 : SrL kI wn An ns[i].f1.f1.length cn (idsOf ns[i].f1.f1) := sr_l inferInstance); refine hK.out _ _ belL ?_; clear hK K; (try simp only [Act.put, put3]))
     (refine lexH_call (by kernel_rfl) (by kernel_rfl) (fun K hK => ?_); go_simp; (go_at_call 113; (with_reducible refine cM (refAll_ (l := ns) (xs := idsOf ns[i].f1.f1) (m := ns[i].f1.f1.length)) ?_); rw [h4]; rintro e wk ⟨rfl, hbk⟩); refine hK.out _ _ belL ?_; clear hK K; (try simp only [Act.put, put3]))
     iterate 3 (refine lexH_take (v := ?_) (by kernel_rfl) ?_ ?_; rotate_left; (focus (intro wq (hSw : BelL w6 wq); (first | (go_simp; done) | (go_simp; with_reducible rfl)); done)); (try simp only [Act.put, put3]))
     iterate 7 (refine lexH_skip (by kernel_rfl) ?_; (try simp only [Act.put, put3]))
     (refine lexH_take (v := ?_) (by kernel_rfl) ?_ ?_; rotate_left; (focus (intro wq (hSw : BelL w6 wq); (first | (go_simp; done) | (go_simp; with_reducible rfl)); done)); (try simp only [Act.put, put3]))
     refine lexH_nil ?_
     go_wp2
     go_ret
     exact ⟨by rw [HF.out]; rfl, belL⟩
    cases h5 : ns[i].f1.f2.all (isNode ns)
    ·have HF := Aside0.mk (show mayB ns ps = false from refAt_stop hlt (by unfold refAt; rw [getD40 hlt]; rw [h4, h5]; simp))
     go_upto_region 5 with (first | (with_reducible refine box_tc rfl (N := 4) rfl (cs := #[.bool false, .int .i64 0, .slice none 0 0, .slice none 0 0, .slice none 0 0, .slice none 0 0]) (t := 40) ?hr ?_; (case hr => go_simp <;> rfl); intro g4 wg4 _ _ _))
     refine wp_letter fun w6 hb6 => ?_
     refine wp_region_lex (S := fun w_ => BelL w6 w_) (by kernel_rfl) (by kernel_rfl) belL ?_
     (refine lexH_take (v := ?_) (by kernel_rfl) ?_ ?_; rotate_left; (focus (intro wq (hSw : BelL w6 wq); (first | (go_simp; done) | (go_simp; with_reducible rfl)); done)); (try simp only [Act.put, put3]))
     (refine lexH_call (by kernel_rfl) (by kernel_rfl) (fun K hK => ?_); go_simp; (go_at_call 112; (with_reducible refine cM (refNode_ (n := ns[i].f1.f1.length) (m := ns[i].f1.f2.length) (ni := ns[i].f2.length) (nl := ns[i].f3.length) (ps := ns[i].f1.f1) (xs := ns[i].f1.f2) (is := ns[i].f2) (ls := ns[i].f3) HZI.out.1 HZI.out.2) ?_); rw [h1]; rintro e wb ⟨rfl, hb⟩); refine hK.out _ _ belL ?_; clear hK K; (try simp only [Act.put, put3]))
     iterate 5 (refine lexH_take (v := ?_) (by kernel_rfl) ?_ ?_; rotate_left; (focus (intro wq (hSw : BelL w6 wq); (first | (go_simp; done) | (go_simp; with_reducible rfl)); done)); (try simp only [Act.put, put3]))
     iterate 12 (refine lexH_skip (by kernel_rfl) ?_; (try simp only [Act.put, put3]))
     iterate 8 (refine lexH_take (v := ?_) (by kernel_rfl) ?_ ?_; rotate_left; (focus (intro wq (hSw : BelL w6 wq); (first | (go_simp; done) | (go_simp; with_reducible rfl)); done)); (try simp only [Act.put, put3]))
     (refine lexH_call (by kernel_rfl) (by kernel_rfl) (fun K hK => ?_); go_simp; (go_at_call 114; (with_reducible refine cM (refNames_ (ps := ns[i].f1.f1) HZI.out.1) ?_); rintro e wn ⟨An, cn, rfl, hFn, hbn⟩; have hln : (idsOf ns[i].f1.f1).length = ns[i].f1.f1.length := idsOf_len _; have hFn2 : SrL kI wn An ns[i].f1.f1.length cn (idsOf ns[i].f1.f1) := sr_l inferInstance); refine hK.out _ _ belL ?_; clear hK K; (try simp only [Act.put, put3]))
     (refine lexH_call (by kernel_rfl) (by kernel_rfl) (fun K hK => ?_); go_simp; (go_at_call 113; (with_reducible refine cM (refAll_ (l := ns) (xs := idsOf ns[i].f1.f1) (m := ns[i].f1.f1.length)) ?_); rw [h4]; rintro e wk ⟨rfl, hbk⟩); refine hK.out _ _ belL ?_; clear hK K; (try simp only [Act.put, put3]))
     iterate 8 (refine lexH_take (v := ?_) (by kernel_rfl) ?_ ?_; rotate_left; (focus (intro wq (hSw : BelL w6 wq); (first | (go_simp; done) | (go_simp; with_reducible rfl)); done)); (try simp only [Act.put, put3]))
     (refine lexH_call (by kernel_rfl) (by kernel_rfl) (fun K hK => ?_); go_simp; (go_at_call 113; (with_reducible refine cM (refAll_ (l := ns) (xs := ns[i].f1.f2)) ?_); rw [h5]; rintro e wq ⟨rfl, hbq⟩); refine hK.out _ _ belL ?_; clear hK K; (try simp only [Act.put, put3]))
     iterate 2 (refine lexH_take (v := ?_) (by kernel_rfl) ?_ ?_; rotate_left; (focus (intro wq (hSw : BelL w6 wq); (first | (go_simp; done) | (go_simp; with_reducible rfl)); done)); (try simp only [Act.put, put3]))
     refine lexH_nil ?_
     go_wp2
     go_ret
     exact ⟨by rw [HF.out]; rfl, belL⟩
    ·have HT := Aside0.mk (range_all HA.out (show refAt ns i = true by unfold refAt; rw [getD40 hlt]; rw [show nodeB ns[i] = true from h1, h4, h5, H0.out]; simp))
     go_upto_region 5 with (first | (with_reducible refine box_tc rfl (N := 4) rfl (cs := #[.bool false, .int .i64 0, .slice none 0 0, .slice none 0 0, .slice none 0 0, .slice none 0 0]) (t := 40) ?hr ?_; (case hr => go_simp <;> rfl); intro g4 wg4 _ _ _))
     refine wp_letter fun w6 hb6 => ?_
     refine wp_region_lex (S := fun w_ => BelL w6 w_) (by kernel_rfl) (by kernel_rfl) belL ?_
     (refine lexH_take (v := ?_) (by kernel_rfl) ?_ ?_; rotate_left; (focus (intro wq (hSw : BelL w6 wq); (first | (go_simp; done) | (go_simp; with_reducible rfl)); done)); (try simp only [Act.put, put3]))
     (refine lexH_call (by kernel_rfl) (by kernel_rfl) (fun K hK => ?_); go_simp; (go_at_call 112; (with_reducible refine cM (refNode_ (n := ns[i].f1.f1.length) (m := ns[i].f1.f2.length) (ni := ns[i].f2.length) (nl := ns[i].f3.length) (ps := ns[i].f1.f1) (xs := ns[i].f1.f2) (is := ns[i].f2) (ls := ns[i].f3) HZI.out.1 HZI.out.2) ?_); rw [h1]; rintro e wb ⟨rfl, hb⟩); refine hK.out _ _ belL ?_; clear hK K; (try simp only [Act.put, put3]))
     iterate 5 (refine lexH_take (v := ?_) (by kernel_rfl) ?_ ?_; rotate_left; (focus (intro wq (hSw : BelL w6 wq); (first | (go_simp; done) | (go_simp; with_reducible rfl)); done)); (try simp only [Act.put, put3]))
     iterate 12 (refine lexH_skip (by kernel_rfl) ?_; (try simp only [Act.put, put3]))
     iterate 8 (refine lexH_take (v := ?_) (by kernel_rfl) ?_ ?_; rotate_left; (focus (intro wq (hSw : BelL w6 wq); (first | (go_simp; done) | (go_simp; with_reducible rfl)); done)); (try simp only [Act.put, put3]))
     (refine lexH_call (by kernel_rfl) (by kernel_rfl) (fun K hK => ?_); go_simp; (go_at_call 114; (with_reducible refine cM (refNames_ (ps := ns[i].f1.f1) HZI.out.1) ?_); rintro e wn ⟨An, cn, rfl, hFn, hbn⟩; have hln : (idsOf ns[i].f1.f1).length = ns[i].f1.f1.length := idsOf_len _; have hFn2 : SrL kI wn An ns[i].f1.f1.length cn (idsOf ns[i].f1.f1) := sr_l inferInstance); refine hK.out _ _ belL ?_; clear hK K; (try simp only [Act.put, put3]))
     (refine lexH_call (by kernel_rfl) (by kernel_rfl) (fun K hK => ?_); go_simp; (go_at_call 113; (with_reducible refine cM (refAll_ (l := ns) (xs := idsOf ns[i].f1.f1) (m := ns[i].f1.f1.length)) ?_); rw [h4]; rintro e wk ⟨rfl, hbk⟩); refine hK.out _ _ belL ?_; clear hK K; (try simp only [Act.put, put3]))
     iterate 8 (refine lexH_take (v := ?_) (by kernel_rfl) ?_ ?_; rotate_left; (focus (intro wq (hSw : BelL w6 wq); (first | (go_simp; done) | (go_simp; with_reducible rfl)); done)); (try simp only [Act.put, put3]))
     (refine lexH_call (by kernel_rfl) (by kernel_rfl) (fun K hK => ?_); go_simp; (go_at_call 113; (with_reducible refine cM (refAll_ (l := ns) (xs := ns[i].f1.f2)) ?_); rw [h5]; rintro e wq ⟨rfl, hbq⟩); refine hK.out _ _ belL ?_; clear hK K; (try simp only [Act.put, put3]))
     iterate 2 (refine lexH_take (v := ?_) (by kernel_rfl) ?_ ?_; rotate_left; (focus (intro wq (hSw : BelL w6 wq); (first | (go_simp; done) | (go_simp; with_reducible rfl)); done)); (try simp only [Act.put, put3]))
     refine lexH_nil ?_
     go_wp2
     go_roundg (ns.length - (i + 1))
     case measure => omega
     case rel => exact ⟨i + 1, by go_num, by omega, rfl, HT, belL⟩
   ·have hgt : decide ((0 : Int) < (i : Int)) = true := decide_eq_true (by omega)
    have hgn : decide (0 < i) = true := decide_eq_true (by omega)
    obtain ⟨ad', X2, y2, X3, y3, X4, y4, X5, y5, he, y0, y1, q2, q3, q4, q5, t2, t3, t4, t5⟩ := el_T40 (W := wr) (A := some ad) (n := ns.length) (c := c) (l := ns) (i - 1) (by omega)
    obtain rfl := Option.some.inj he
    clear q2 q3 q4 q5 t2 t3 t4 t5
    have e1 : (i : Int) - 1 = ((i - 1 : Nat) : Int) := by omega
    have e1w : IntKind.i64.wrap ((i - 1 : Nat) : Int) = ((i - 1 : Nat) : Int) := IntWalk.i64_in _ (by omega)
    have hj1 : i - 1 < ns.length := by omega
    have H0 := Aside0.mk (show ns.getD (i - 1) z40 = ns[i - 1] from getD40 hj1)
    cases h3 : decide (ns[i].f1.f0 ≤ ns[i - 1].f1.f0)
    ·have H3 := Aside0.mk (show decide (ns[i - 1].f1.f0 < ns[i].f1.f0) = true from decide_eq_true (by have := of_decide_eq_false h3; omega))
     cases h4 : (idsOf ns[i].f1.f1).all (isNode ns)
     ·have HF := Aside0.mk (show mayB ns ps = false from refAt_stop hlt (by unfold refAt; rw [getD40 hlt]; rw [h4]; simp))
      go_upto_region 5 with (first | (with_reducible refine box_tc rfl (N := 4) rfl (cs := #[.bool false, .int .i64 0, .slice none 0 0, .slice none 0 0, .slice none 0 0, .slice none 0 0]) (t := 40) ?hr ?_; (case hr => go_simp <;> rfl); intro g4 wg4 _ _ _))
      refine wp_letter fun w6 hb6 => ?_
      refine wp_region_lex (S := fun w_ => BelL w6 w_) (by kernel_rfl) (by kernel_rfl) belL ?_
      (refine lexH_take (v := ?_) (by kernel_rfl) ?_ ?_; rotate_left; (focus (intro wq (hSw : BelL w6 wq); (first | (go_simp; done) | (go_simp; with_reducible rfl)); done)); (try simp only [Act.put, put3]))
      (refine lexH_call (by kernel_rfl) (by kernel_rfl) (fun K hK => ?_); go_simp; (go_at_call 112; (with_reducible refine cM (refNode_ (n := ns[i].f1.f1.length) (m := ns[i].f1.f2.length) (ni := ns[i].f2.length) (nl := ns[i].f3.length) (ps := ns[i].f1.f1) (xs := ns[i].f1.f2) (is := ns[i].f2) (ls := ns[i].f3) HZI.out.1 HZI.out.2) ?_); rw [h1]; rintro e wb ⟨rfl, hb⟩); refine hK.out _ _ belL ?_; clear hK K; (try simp only [Act.put, put3]))
      iterate 25 (refine lexH_take (v := ?_) (by kernel_rfl) ?_ ?_; rotate_left; (focus (intro wq (hSw : BelL w6 wq); (first | (go_simp; done) | (go_simp; with_reducible rfl)); done)); (try simp only [Act.put, put3]))
      (refine lexH_call (by kernel_rfl) (by kernel_rfl) (fun K hK => ?_); go_simp; (go_at_call 114; (with_reducible refine cM (refNames_ (ps := ns[i].f1.f1) HZI.out.1) ?_); rintro e wn ⟨An, cn, rfl, hFn, hbn⟩; have hln : (idsOf ns[i].f1.f1).length = ns[i].f1.f1.length := idsOf_len _; have hFn2 : SrL kI wn An ns[i].f1.f1.length cn (idsOf ns[i].f1.f1) := sr_l inferInstance); refine hK.out _ _ belL ?_; clear hK K; (try simp only [Act.put, put3]))
      (refine lexH_call (by kernel_rfl) (by kernel_rfl) (fun K hK => ?_); go_simp; (go_at_call 113; (with_reducible refine cM (refAll_ (l := ns) (xs := idsOf ns[i].f1.f1) (m := ns[i].f1.f1.length)) ?_); rw [h4]; rintro e wk ⟨rfl, hbk⟩); refine hK.out _ _ belL ?_; clear hK K; (try simp only [Act.put, put3]))
      iterate 3 (refine lexH_take (v := ?_) (by kernel_rfl) ?_ ?_; rotate_left; (focus (intro wq (hSw : BelL w6 wq); (first | (go_simp; done) | (go_simp; with_reducible rfl)); done)); (try simp only [Act.put, put3]))
      iterate 7 (refine lexH_skip (by kernel_rfl) ?_; (try simp only [Act.put, put3]))
      (refine lexH_take (v := ?_) (by kernel_rfl) ?_ ?_; rotate_left; (focus (intro wq (hSw : BelL w6 wq); (first | (go_simp; done) | (go_simp; with_reducible rfl)); done)); (try simp only [Act.put, put3]))
      refine lexH_nil ?_
      go_wp2
      go_ret
      exact ⟨by rw [HF.out]; rfl, belL⟩
     cases h5 : ns[i].f1.f2.all (isNode ns)
     ·have HF := Aside0.mk (show mayB ns ps = false from refAt_stop hlt (by unfold refAt; rw [getD40 hlt]; rw [h4, h5]; simp))
      go_upto_region 5 with (first | (with_reducible refine box_tc rfl (N := 4) rfl (cs := #[.bool false, .int .i64 0, .slice none 0 0, .slice none 0 0, .slice none 0 0, .slice none 0 0]) (t := 40) ?hr ?_; (case hr => go_simp <;> rfl); intro g4 wg4 _ _ _))
      refine wp_letter fun w6 hb6 => ?_
      refine wp_region_lex (S := fun w_ => BelL w6 w_) (by kernel_rfl) (by kernel_rfl) belL ?_
      (refine lexH_take (v := ?_) (by kernel_rfl) ?_ ?_; rotate_left; (focus (intro wq (hSw : BelL w6 wq); (first | (go_simp; done) | (go_simp; with_reducible rfl)); done)); (try simp only [Act.put, put3]))
      (refine lexH_call (by kernel_rfl) (by kernel_rfl) (fun K hK => ?_); go_simp; (go_at_call 112; (with_reducible refine cM (refNode_ (n := ns[i].f1.f1.length) (m := ns[i].f1.f2.length) (ni := ns[i].f2.length) (nl := ns[i].f3.length) (ps := ns[i].f1.f1) (xs := ns[i].f1.f2) (is := ns[i].f2) (ls := ns[i].f3) HZI.out.1 HZI.out.2) ?_); rw [h1]; rintro e wb ⟨rfl, hb⟩); refine hK.out _ _ belL ?_; clear hK K; (try simp only [Act.put, put3]))
      iterate 25 (refine lexH_take (v := ?_) (by kernel_rfl) ?_ ?_; rotate_left; (focus (intro wq (hSw : BelL w6 wq); (first | (go_simp; done) | (go_simp; with_reducible rfl)); done)); (try simp only [Act.put, put3]))
      (refine lexH_call (by kernel_rfl) (by kernel_rfl) (fun K hK => ?_); go_simp; (go_at_call 114; (with_reducible refine cM (refNames_ (ps := ns[i].f1.f1) HZI.out.1) ?_); rintro e wn ⟨An, cn, rfl, hFn, hbn⟩; have hln : (idsOf ns[i].f1.f1).length = ns[i].f1.f1.length := idsOf_len _; have hFn2 : SrL kI wn An ns[i].f1.f1.length cn (idsOf ns[i].f1.f1) := sr_l inferInstance); refine hK.out _ _ belL ?_; clear hK K; (try simp only [Act.put, put3]))
      (refine lexH_call (by kernel_rfl) (by kernel_rfl) (fun K hK => ?_); go_simp; (go_at_call 113; (with_reducible refine cM (refAll_ (l := ns) (xs := idsOf ns[i].f1.f1) (m := ns[i].f1.f1.length)) ?_); rw [h4]; rintro e wk ⟨rfl, hbk⟩); refine hK.out _ _ belL ?_; clear hK K; (try simp only [Act.put, put3]))
      iterate 8 (refine lexH_take (v := ?_) (by kernel_rfl) ?_ ?_; rotate_left; (focus (intro wq (hSw : BelL w6 wq); (first | (go_simp; done) | (go_simp; with_reducible rfl)); done)); (try simp only [Act.put, put3]))
      (refine lexH_call (by kernel_rfl) (by kernel_rfl) (fun K hK => ?_); go_simp; (go_at_call 113; (with_reducible refine cM (refAll_ (l := ns) (xs := ns[i].f1.f2)) ?_); rw [h5]; rintro e wq ⟨rfl, hbq⟩); refine hK.out _ _ belL ?_; clear hK K; (try simp only [Act.put, put3]))
      iterate 2 (refine lexH_take (v := ?_) (by kernel_rfl) ?_ ?_; rotate_left; (focus (intro wq (hSw : BelL w6 wq); (first | (go_simp; done) | (go_simp; with_reducible rfl)); done)); (try simp only [Act.put, put3]))
      refine lexH_nil ?_
      go_wp2
      go_ret
      exact ⟨by rw [HF.out]; rfl, belL⟩
     ·have HT := Aside0.mk (range_all HA.out (show refAt ns i = true by unfold refAt; rw [getD40 hlt]; rw [show nodeB ns[i] = true from h1, h4, h5, H0.out, H3.out]; simp))
      go_upto_region 5 with (first | (with_reducible refine box_tc rfl (N := 4) rfl (cs := #[.bool false, .int .i64 0, .slice none 0 0, .slice none 0 0, .slice none 0 0, .slice none 0 0]) (t := 40) ?hr ?_; (case hr => go_simp <;> rfl); intro g4 wg4 _ _ _))
      refine wp_letter fun w6 hb6 => ?_
      refine wp_region_lex (S := fun w_ => BelL w6 w_) (by kernel_rfl) (by kernel_rfl) belL ?_
      (refine lexH_take (v := ?_) (by kernel_rfl) ?_ ?_; rotate_left; (focus (intro wq (hSw : BelL w6 wq); (first | (go_simp; done) | (go_simp; with_reducible rfl)); done)); (try simp only [Act.put, put3]))
      (refine lexH_call (by kernel_rfl) (by kernel_rfl) (fun K hK => ?_); go_simp; (go_at_call 112; (with_reducible refine cM (refNode_ (n := ns[i].f1.f1.length) (m := ns[i].f1.f2.length) (ni := ns[i].f2.length) (nl := ns[i].f3.length) (ps := ns[i].f1.f1) (xs := ns[i].f1.f2) (is := ns[i].f2) (ls := ns[i].f3) HZI.out.1 HZI.out.2) ?_); rw [h1]; rintro e wb ⟨rfl, hb⟩); refine hK.out _ _ belL ?_; clear hK K; (try simp only [Act.put, put3]))
      iterate 25 (refine lexH_take (v := ?_) (by kernel_rfl) ?_ ?_; rotate_left; (focus (intro wq (hSw : BelL w6 wq); (first | (go_simp; done) | (go_simp; with_reducible rfl)); done)); (try simp only [Act.put, put3]))
      (refine lexH_call (by kernel_rfl) (by kernel_rfl) (fun K hK => ?_); go_simp; (go_at_call 114; (with_reducible refine cM (refNames_ (ps := ns[i].f1.f1) HZI.out.1) ?_); rintro e wn ⟨An, cn, rfl, hFn, hbn⟩; have hln : (idsOf ns[i].f1.f1).length = ns[i].f1.f1.length := idsOf_len _; have hFn2 : SrL kI wn An ns[i].f1.f1.length cn (idsOf ns[i].f1.f1) := sr_l inferInstance); refine hK.out _ _ belL ?_; clear hK K; (try simp only [Act.put, put3]))
      (refine lexH_call (by kernel_rfl) (by kernel_rfl) (fun K hK => ?_); go_simp; (go_at_call 113; (with_reducible refine cM (refAll_ (l := ns) (xs := idsOf ns[i].f1.f1) (m := ns[i].f1.f1.length)) ?_); rw [h4]; rintro e wk ⟨rfl, hbk⟩); refine hK.out _ _ belL ?_; clear hK K; (try simp only [Act.put, put3]))
      iterate 8 (refine lexH_take (v := ?_) (by kernel_rfl) ?_ ?_; rotate_left; (focus (intro wq (hSw : BelL w6 wq); (first | (go_simp; done) | (go_simp; with_reducible rfl)); done)); (try simp only [Act.put, put3]))
      (refine lexH_call (by kernel_rfl) (by kernel_rfl) (fun K hK => ?_); go_simp; (go_at_call 113; (with_reducible refine cM (refAll_ (l := ns) (xs := ns[i].f1.f2)) ?_); rw [h5]; rintro e wq ⟨rfl, hbq⟩); refine hK.out _ _ belL ?_; clear hK K; (try simp only [Act.put, put3]))
      iterate 2 (refine lexH_take (v := ?_) (by kernel_rfl) ?_ ?_; rotate_left; (focus (intro wq (hSw : BelL w6 wq); (first | (go_simp; done) | (go_simp; with_reducible rfl)); done)); (try simp only [Act.put, put3]))
      refine lexH_nil ?_
      go_wp2
      go_roundg (ns.length - (i + 1))
      case measure => omega
      case rel => exact ⟨i + 1, by go_num, by omega, rfl, HT, belL⟩
    ·have H3 := Aside0.mk (show decide (ns[i - 1].f1.f0 < ns[i].f1.f0) = false from decide_eq_false (by have := of_decide_eq_true h3; omega))
     have HF := Aside0.mk (show mayB ns ps = false from refAt_stop hlt (by unfold refAt; rw [getD40 hlt]; rw [H0.out, H3.out, decide_eq_false h0]; simp))
     go_upto_region 5 with (first | (with_reducible refine box_tc rfl (N := 4) rfl (cs := #[.bool false, .int .i64 0, .slice none 0 0, .slice none 0 0, .slice none 0 0, .slice none 0 0]) (t := 40) ?hr ?_; (case hr => go_simp <;> rfl); intro g4 wg4 _ _ _))
     refine wp_letter fun w6 hb6 => ?_
     refine wp_region_lex (S := fun w_ => BelL w6 w_) (by kernel_rfl) (by kernel_rfl) belL ?_
     (refine lexH_take (v := ?_) (by kernel_rfl) ?_ ?_; rotate_left; (focus (intro wq (hSw : BelL w6 wq); (first | (go_simp; done) | (go_simp; with_reducible rfl)); done)); (try simp only [Act.put, put3]))
     (refine lexH_call (by kernel_rfl) (by kernel_rfl) (fun K hK => ?_); go_simp; (go_at_call 112; (with_reducible refine cM (refNode_ (n := ns[i].f1.f1.length) (m := ns[i].f1.f2.length) (ni := ns[i].f2.length) (nl := ns[i].f3.length) (ps := ns[i].f1.f1) (xs := ns[i].f1.f2) (is := ns[i].f2) (ls := ns[i].f3) HZI.out.1 HZI.out.2) ?_); rw [h1]; rintro e wb ⟨rfl, hb⟩); refine hK.out _ _ belL ?_; clear hK K; (try simp only [Act.put, put3]))
     iterate 20 (refine lexH_take (v := ?_) (by kernel_rfl) ?_ ?_; rotate_left; (focus (intro wq (hSw : BelL w6 wq); (first | (go_simp; done) | (go_simp; with_reducible rfl)); done)); (try simp only [Act.put, put3]))
     iterate 8 (refine lexH_skip (by kernel_rfl) ?_; (try simp only [Act.put, put3]))
     iterate 2 (refine lexH_take (v := ?_) (by kernel_rfl) ?_ ?_; rotate_left; (focus (intro wq (hSw : BelL w6 wq); (first | (go_simp; done) | (go_simp; with_reducible rfl)); done)); (try simp only [Act.put, put3]))
     iterate 7 (refine lexH_skip (by kernel_rfl) ?_; (try simp only [Act.put, put3]))
     (refine lexH_take (v := ?_) (by kernel_rfl) ?_ ?_; rotate_left; (focus (intro wq (hSw : BelL w6 wq); (first | (go_simp; done) | (go_simp; with_reducible rfl)); done)); (try simp only [Act.put, put3]))
     refine lexH_nil ?_
     go_wp2
     go_ret
     exact ⟨by rw [HF.out]; rfl, belL⟩
  ·have HT := Aside0.mk (show mayB ns ps = (decide (1 ≤ ns.length) && (decide (ns.length ≤ 8) && (ps.all (packB ns) && queueB ps))) by
    have e : i = ns.length := by omega
    have := HA.out
    rw [e] at this
    rw [world_split, this, Bool.true_and])
   go_upto_region 8 with (fail)
   refine wp_letter fun w7 hb7 => ?_
   go_loopg [5] 0 (fun kq v5 w' => v5 = .int .i64 0 ∧ BelL wl w')
   case atStart => exact ⟨rfl, belL⟩
   case round =>
    obtain ⟨rfl, hbr2⟩ := hrel
    cases h6 : decide ((1 : Int) ≤ (ns.length : Int))
    ·have HT2 := Aside0.mk (show mayB ns ps = false by rw [HT.out, decide_eq_false (show ¬ 1 ≤ ns.length by have := of_decide_eq_false h6; omega)]; rfl)
     go_wp2_with (first | (go_at_call 115; (with_reducible refine cM (refCuts0_) ?_); rintro e wb ⟨rfl, hb⟩) | (go_at_call 116; (with_reducible refine cM (refPackets_ (ns := ns) (ms := ps)) ?_); rintro e wb ⟨rfl, hb⟩))
     go_ret
     exact ⟨by rw [HT2.out]; rfl, belL⟩
    cases h7 : decide ((ns.length : Int) ≤ 8)
    ·have HT2 := Aside0.mk (show mayB ns ps = false by rw [HT.out, decide_eq_false (show ¬ ns.length ≤ 8 by have := of_decide_eq_false h7; omega)]; simp)
     go_wp2_with (first | (go_at_call 115; (with_reducible refine cM (refCuts0_) ?_); rintro e wb ⟨rfl, hb⟩) | (go_at_call 116; (with_reducible refine cM (refPackets_ (ns := ns) (ms := ps)) ?_); rintro e wb ⟨rfl, hb⟩))
     go_ret
     exact ⟨by rw [HT2.out]; rfl, belL⟩
    ·have HT2 := Aside0.mk (show mayB ns ps = (ps.all (packB ns) && queueB ps) by rw [HT.out, decide_eq_true (show 1 ≤ ns.length by have := of_decide_eq_true h6; omega), decide_eq_true (show ns.length ≤ 8 by have := of_decide_eq_true h7; omega)]; rfl)
     go_wp2_with (first | (go_at_call 115; (with_reducible refine cM (refCuts0_) ?_); rintro e wb ⟨rfl, hb⟩) | (go_at_call 116; (with_reducible refine cM (refPackets_ (ns := ns) (ms := ps)) ?_); rintro e wb ⟨rfl, hb⟩))
     go_ret
     exact ⟨by rw [HT2.out]; rfl, belL⟩
end
end Go.Proofs.YtljipbmmgcccnaaGreat.T
end
section
namespace Go.Proofs.YtljipbmmgcccnaaGreat.T
open Go.ChangeShapes Go.WideShapes Go.ChangeAt Go.Joins Go.Deep Go.RowKit Go.Proofs.YtljipbmmgcccnaaGreatW.PrintWords Go.Proofs.YtljipbmmgcccnaaGreatW.PrintLast Go.Proofs.YtljipbmmgcccnaaGreatW.PrintMore
set_option linter.unusedVariables false
set_option linter.unusedSimpArgs false
set_option maxRecDepth 100000
theorem cells57 : Tryz.prog.cellsOf 57 = 1 := by kernel_rfl
theorem cells58 : Tryz.prog.cellsOf 58 = 1 := by kernel_rfl
theorem cells59 : Tryz.prog.cellsOf 59 = 1 := by kernel_rfl
theorem cells61 : Tryz.prog.cellsOf 61 = 3 := by kernel_rfl
theorem cells126 : Tryz.prog.cellsOf 126 = 11 := by kernel_rfl
theorem cells157 : Tryz.prog.cellsOf 157 = 2 := by kernel_rfl
def Fits (l : List Nat) : Prop := ∀ q ∈ l, q ≤ reachBytes
theorem Fits.left {a b : List Nat} (h : Fits (a ++ b)) : Fits a := fun q hq => h q (List.mem_append_left _ hq)
theorem Fits.right {a b : List Nat} (h : Fits (a ++ b)) : Fits b := fun q hq => h q (List.mem_append_right _ hq)
theorem opn126 : Opn k126 126 := by
 intro H enc W base spare held n cs y h
 obtain ⟨xs, m, _, hx, hl, hlen, hf⟩ := DataW.trod_struct Tryz.underlying126 h
 rw [cells126] at hl
 match xs, hlen, cs, hl with
 | [y0, y1, y2, y3, y4, y5, y6], _, [c0, c1, c2, c3, c4, c5, c6, c7, c8, c9, c10], _ =>
   have h0 := hf 0 _ rfl
   have h1 := hf 1 _ rfl
   have h2 := hf 2 _ rfl
   have h3 := hf 3 _ rfl
   have h4 := hf 4 _ rfl
   have h5 := hf 5 _ rfl
   have h6 := hf 6 _ rfl
   have h0 : DataW.trod enc Tryz.prog W base spare held m 3 [c0] = some y0 := h0
   have h1 : DataW.trod enc Tryz.prog W base spare held m 3 [c1] = some y1 := h1
   have h2 : DataW.trod enc Tryz.prog W base spare held m 3 [c2] = some y2 := h2
   have h3 : DataW.trod enc Tryz.prog W base spare held m 23 [c3] = some y3 := h3
   have h4 : DataW.trod enc Tryz.prog W base spare held m 3 [c4] = some y4 := h4
   have h5 : DataW.trod enc Tryz.prog W base spare held m 48 [c5, c6, c7, c8, c9] = some y5 := h5
   have h6 : DataW.trod enc Tryz.prog W base spare held m 4 [c10] = some y6 := h6
   obtain ⟨a0, e0, _, _⟩ := DataW.trod_int Tryz.underlying3 h0
   obtain ⟨a1, e1, _, _⟩ := DataW.trod_int Tryz.underlying3 h1
   obtain ⟨a2, e2, _, _⟩ := DataW.trod_int Tryz.underlying3 h2
   obtain ⟨A3, n3, c3', ids, e3, s3⟩ := open_sl Tryz.underlying23 cells3 opn3 0 h3
   obtain ⟨a4, e4, _, _⟩ := DataW.trod_int Tryz.underlying3 h4
   obtain ⟨i5, hi5⟩ := opn48 h5
   have e5 := k48_open hi5
   obtain ⟨a6, e6, _⟩ := DataW.trod_bool Tryz.underlying4 h6
   simp only [List.cons.injEq, and_true] at e0 e1 e2 e3 e4 e5 e6
   obtain ⟨rfl, rfl, rfl, rfl, rfl⟩ := e5
   subst e0 e1 e2 e3 e4 e6
   obtain rfl := s3.len
   exact ⟨⟨a0, a1, a2, ids, a4, i5, a6⟩, k126_mk W ⟨a0, a1, a2, ids, a4, i5, a6⟩ s3.le s3.C⟩
theorem opn157 : Opn k157 157 := by
 intro H enc W base spare held n cs y h
 obtain ⟨y0, y1, m, hx, hl, h0, h1⟩ := trod_struct2 Tryz.underlying157 h
 rw [cells157] at hl
 match cs, hl with
 | [c0, c1], _ =>
   simp only [cells3, List.drop, List.take] at h0 h1
   obtain ⟨a, e0, _, _⟩ := DataW.trod_int Tryz.underlying3 h0
   obtain ⟨b, e1, _, _⟩ := DataW.trod_int Tryz.underlying3 h1
   simp only [List.cons.injEq, and_true] at e0 e1
   subst e0 e1
   exact ⟨⟨a, b⟩, k157_mk W ⟨a, b⟩⟩
end Go.Proofs.YtljipbmmgcccnaaGreat.T
end
section
namespace Go.Proofs.YtljipbmmgcccnaaGreat.T
open Go.RowKit Go.Proofs.YtljipbmmgcccnaaGreatW.PrintWords Go.Proofs.YtljipbmmgcccnaaGreatW.PrintLast Go.Proofs.YtljipbmmgcccnaaGreatW.PrintMore
attribute [local go_sem] cell_tc frozen_tc max2_int min2_int
attribute [local go_sem ↓] Go.wp_at_zero Go.wp_at_succ
set_option linter.unusedVariables false
set_option linter.unusedSimpArgs false
set_option synthInstance.maxHeartbeats 400000
set_option synthInstance.maxSize 512
section
attribute [local go_sem] cell_tc2
attribute [local go_sem high] eqA46 eqA98 eqA77 eqA48
theorem in_ {x : Int} {A : Option Addr} {n c : Nat} {l : List Int} {w : World} [h : Sr kI w A n c l] :
 Calls Tryz.prog 80 #[.slice A n c, .int .i64 x] w fun e w' => e = .returned (.bool (memB l x)) ∧ BelL w w' := by
 obtain rfl := h.len
 have HS := sr_l h
 have hlen : l.length ≤ 9223372036854775807 := h.C.2.1
 clear h
 go_enter Tryz.func80, Tryz.ntmps80
 go_wp2
 go_loopg [5] l.length (fun kq v5 w' => ∃ i : Nat, v5 = .int .i64 i ∧ i ≤ l.length ∧ kq = l.length - i ∧ Aside0 ((l.take i).any (fun y => y == x) = false) ∧ BelL w w')
 case atStart => exact ⟨0, rfl, Nat.zero_le _, rfl, ⟨rfl⟩, belL⟩
 case round =>
  obtain ⟨i, rfl, hi, rfl, HA, hbr⟩ := hrel
  by_cases hlt : i < l.length
  ·obtain ⟨ad, rfl, hx⟩ := el_I (W := wr) (A := A) (n := l.length) (c := c) (l := l) i hlt
   cases h1 : (l[i] == x)
   ·have HT := Aside0.mk (any_step (p := fun y => y == x) hlt HA.out h1)
    go_wp2
    go_roundg (l.length - (i + 1))
    case measure => omega
    case rel => exact ⟨i + 1, by go_num, by omega, rfl, HT, belL⟩
   ·have HF := Aside0.mk (show memB l x = true from any_stop (p := fun y => y == x) hlt h1)
    go_wp2
    go_ret
    exact ⟨by rw [HF.out]; rfl, belL⟩
  ·have HT := Aside0.mk (show memB l x = false by
    have := HA.out
    rwa [List.take_of_length_le (by omega)] at this)
   go_wp2
   go_ret
   exact ⟨by rw [HT.out]; rfl, belL⟩
set_option maxHeartbeats 1000000 in
theorem refNewer_ {ac ax bc bx : Int} {w : World} :
 Calls Tryz.prog 86 #[.agg #[.int .i64 ac, .int .i64 ax], .agg #[.int .i64 bc, .int .i64 bx]] w fun e w' => e = .returned (.tuple #[.bool (newerR ac ax bc bx), .int .i64 (newerE ac ax bc bx)]) ∧ BelL w w' := by
 cases h1 : verB ac ax
 ·rw [show newerR ac ax bc bx = false by simp [newerR, h1], show newerE ac ax bc bx = 300 by simp [newerE, h1]]
  go_enter Tryz.func86, Tryz.ntmps86
  go_wp2_with (first | (with_reducible refine box_tc rfl (N := 2) rfl (cs := #[.int .i64 ac, .int .i64 ax]) (t := 46) ?hr ?_; (case hr => go_simp <;> rfl); intro g1 wg1 _ _ _) | (with_reducible refine box_tc rfl (N := 3) rfl (cs := #[.int .i64 bc, .int .i64 bx]) (t := 46) ?hr ?_; (case hr => go_simp <;> rfl); intro g2 wg2 _ _ _) | (go_at_call 139; (with_reducible refine cM (refVer_) ?_); rintro e wb ⟨rfl, hb⟩))
  go_ret2
  exact ⟨rfl, belL⟩
 ·cases h2 : verB bc bx
  ·rw [show newerR ac ax bc bx = false by simp [newerR, h1, h2], show newerE ac ax bc bx = 300 by simp [newerE, h1, h2]]
   go_enter Tryz.func86, Tryz.ntmps86
   go_wp2_with (first | (with_reducible refine box_tc rfl (N := 2) rfl (cs := #[.int .i64 ac, .int .i64 ax]) (t := 46) ?hr ?_; (case hr => go_simp <;> rfl); intro g1 wg1 _ _ _) | (with_reducible refine box_tc rfl (N := 3) rfl (cs := #[.int .i64 bc, .int .i64 bx]) (t := 46) ?hr ?_; (case hr => go_simp <;> rfl); intro g2 wg2 _ _ _) | (go_at_call 139; (with_reducible refine cM (refVer_) ?_); rintro e wb ⟨rfl, hb⟩))
   go_ret2
   exact ⟨rfl, belL⟩
  ·rw [show newerE ac ax bc bx = 0 by simp [newerE, h1, h2]]
   by_cases e1 : bc < ac
   ·rw [show newerR ac ax bc bx = true by simp [newerR, h1, h2, newerB, e1]]
    go_enter Tryz.func86, Tryz.ntmps86
    go_wp2_with (first | (with_reducible refine box_tc rfl (N := 2) rfl (cs := #[.int .i64 ac, .int .i64 ax]) (t := 46) ?hr ?_; (case hr => go_simp <;> rfl); intro g1 wg1 _ _ _) | (with_reducible refine box_tc rfl (N := 3) rfl (cs := #[.int .i64 bc, .int .i64 bx]) (t := 46) ?hr ?_; (case hr => go_simp <;> rfl); intro g2 wg2 _ _ _) | (go_at_call 139; (with_reducible refine cM (refVer_) ?_); rintro e wb ⟨rfl, hb⟩))
    go_ret2
    exact ⟨rfl, belL⟩
   ·by_cases e2 : ac = bc
    ·subst e2
     rw [show newerR ac ax ac bx = decide (bx < ax) by simp [newerR, h1, h2, newerB]]
     go_enter Tryz.func86, Tryz.ntmps86
     go_wp2_with (first | (with_reducible refine box_tc rfl (N := 2) rfl (cs := #[.int .i64 ac, .int .i64 ax]) (t := 46) ?hr ?_; (case hr => go_simp <;> rfl); intro g1 wg1 _ _ _) | (with_reducible refine box_tc rfl (N := 3) rfl (cs := #[.int .i64 ac, .int .i64 bx]) (t := 46) ?hr ?_; (case hr => go_simp <;> rfl); intro g2 wg2 _ _ _) | (go_at_call 139; (with_reducible refine cM (refVer_) ?_); rintro e wb ⟨rfl, hb⟩))
     go_ret2
     exact ⟨rfl, belL⟩
    ·rw [show newerR ac ax bc bx = false by simp [newerR, h1, h2, newerB, e1, e2]]
     have e3 : (ac == bc) = false := by simpa using e2
     have e4 : decide (bc < ac) = false := decide_eq_false e1
     clear e1 e2
     go_enter Tryz.func86, Tryz.ntmps86
     go_wp2_with (first | (with_reducible refine box_tc rfl (N := 2) rfl (cs := #[.int .i64 ac, .int .i64 ax]) (t := 46) ?hr ?_; (case hr => go_simp <;> rfl); intro g1 wg1 _ _ _) | (with_reducible refine box_tc rfl (N := 3) rfl (cs := #[.int .i64 bc, .int .i64 bx]) (t := 46) ?hr ?_; (case hr => go_simp <;> rfl); intro g2 wg2 _ _ _) | (go_at_call 139; (with_reducible refine cM (refVer_) ?_); rintro e wb ⟨rfl, hb⟩))
     go_ret2
     exact ⟨rfl, belL⟩
theorem item_gone {k c x v : Int} (h : itemB k c x v true = true) : v = 0 := by
 unfold itemB at h
 simp at h
 omega
set_option maxHeartbeats 4000000 in
theorem refBest_ {ak ac ax av bk bc bx bv : Int} {ag bg : Bool} {w : World} :
 Calls Tryz.prog 30 #[.agg #[.int .i64 ak, .int .i64 ac, .int .i64 ax, .int .i64 av, .bool ag], .agg #[.int .i64 bk, .int .i64 bc, .int .i64 bx, .int .i64 bv, .bool bg]] w fun e w' => e = .returned (.tuple #[itemV (bestI ⟨ak, ⟨ac, ax⟩, av, ag⟩ ⟨bk, ⟨bc, bx⟩, bv, bg⟩), .int .i64 (bestE ⟨ak, ⟨ac, ax⟩, av, ag⟩ ⟨bk, ⟨bc, bx⟩, bv, bg⟩)]) ∧ BelL w w' := by
 cases h1 : itemB ak ac ax av ag
 ·rw [show bestI ⟨ak, ⟨ac, ax⟩, av, ag⟩ ⟨bk, ⟨bc, bx⟩, bv, bg⟩ = z48 by simp [bestI, bestB, itemOk, h1], show bestE ⟨ak, ⟨ac, ax⟩, av, ag⟩ ⟨bk, ⟨bc, bx⟩, bv, bg⟩ = 400 by simp [bestE, bestB, itemOk, h1]]
  go_enter Tryz.func30, Tryz.ntmps30
  go_wp2_with (first | (with_reducible refine box_tc rfl (N := 2) rfl (cs := #[.int .i64 ak, .int .i64 ac, .int .i64 ax, .int .i64 av, .bool ag]) (t := 48) ?hr ?_; (case hr => go_simp <;> rfl); intro g1 wg1 _ _ _) | (with_reducible refine box_tc rfl (N := 3) rfl (cs := #[.int .i64 bk, .int .i64 bc, .int .i64 bx, .int .i64 bv, .bool bg]) (t := 48) ?hr ?_; (case hr => go_simp <;> rfl); intro g2 wg2 _ _ _) | (with_reducible refine box_tc rfl (N := 4) rfl (cs := #[.int .i64 0, .int .i64 0, .int .i64 0, .int .i64 0, .bool false]) (t := 48) ?hr ?_; (case hr => go_simp <;> rfl); intro g3 wg3 _ _ _) | (go_at_call 85; (with_reducible refine cM (refItem_) ?_); rintro e wb ⟨rfl, hb⟩))
  exact bodyPost_ret (v := .tuple #[.agg #[.int .i64 0, .int .i64 0, .int .i64 0, .int .i64 0, .bool false], .int .i64 400]) (by simp [results, Tryz.results30, go_sem]) rfl ⟨rfl, belL⟩
 ·cases h2 : itemB bk bc bx bv bg
  ·rw [show bestI ⟨ak, ⟨ac, ax⟩, av, ag⟩ ⟨bk, ⟨bc, bx⟩, bv, bg⟩ = z48 by simp [bestI, bestB, itemOk, h2], show bestE ⟨ak, ⟨ac, ax⟩, av, ag⟩ ⟨bk, ⟨bc, bx⟩, bv, bg⟩ = 400 by simp [bestE, bestB, itemOk, h2]]
   go_enter Tryz.func30, Tryz.ntmps30
   go_wp2_with (first | (with_reducible refine box_tc rfl (N := 2) rfl (cs := #[.int .i64 ak, .int .i64 ac, .int .i64 ax, .int .i64 av, .bool ag]) (t := 48) ?hr ?_; (case hr => go_simp <;> rfl); intro g1 wg1 _ _ _) | (with_reducible refine box_tc rfl (N := 3) rfl (cs := #[.int .i64 bk, .int .i64 bc, .int .i64 bx, .int .i64 bv, .bool bg]) (t := 48) ?hr ?_; (case hr => go_simp <;> rfl); intro g2 wg2 _ _ _) | (with_reducible refine box_tc rfl (N := 4) rfl (cs := #[.int .i64 0, .int .i64 0, .int .i64 0, .int .i64 0, .bool false]) (t := 48) ?hr ?_; (case hr => go_simp <;> rfl); intro g3 wg3 _ _ _) | (go_at_call 85; (with_reducible refine cM (refItem_) ?_); rintro e wb ⟨rfl, hb⟩))
   exact bodyPost_ret (v := .tuple #[.agg #[.int .i64 0, .int .i64 0, .int .i64 0, .int .i64 0, .bool false], .int .i64 400]) (by simp [results, Tryz.results30, go_sem]) rfl ⟨rfl, belL⟩
  ·cases h3 : (ak == bk)
   ·rw [show bestI ⟨ak, ⟨ac, ax⟩, av, ag⟩ ⟨bk, ⟨bc, bx⟩, bv, bg⟩ = z48 by simp [bestI, bestB, itemOk, h3], show bestE ⟨ak, ⟨ac, ax⟩, av, ag⟩ ⟨bk, ⟨bc, bx⟩, bv, bg⟩ = 400 by simp [bestE, bestB, itemOk, h3]]
    have h4 : (ak != bk) = true := by simpa using h3
    go_enter Tryz.func30, Tryz.ntmps30
    go_wp2_with (first | (with_reducible refine box_tc rfl (N := 2) rfl (cs := #[.int .i64 ak, .int .i64 ac, .int .i64 ax, .int .i64 av, .bool ag]) (t := 48) ?hr ?_; (case hr => go_simp <;> rfl); intro g1 wg1 _ _ _) | (with_reducible refine box_tc rfl (N := 3) rfl (cs := #[.int .i64 bk, .int .i64 bc, .int .i64 bx, .int .i64 bv, .bool bg]) (t := 48) ?hr ?_; (case hr => go_simp <;> rfl); intro g2 wg2 _ _ _) | (with_reducible refine box_tc rfl (N := 4) rfl (cs := #[.int .i64 0, .int .i64 0, .int .i64 0, .int .i64 0, .bool false]) (t := 48) ?hr ?_; (case hr => go_simp <;> rfl); intro g3 wg3 _ _ _) | (go_at_call 85; (with_reducible refine cM (refItem_) ?_); rintro e wb ⟨rfl, hb⟩))
    exact bodyPost_ret (v := .tuple #[.agg #[.int .i64 0, .int .i64 0, .int .i64 0, .int .i64 0, .bool false], .int .i64 400]) (by simp [results, Tryz.results30, go_sem]) rfl ⟨rfl, belL⟩
   ·have h4 : (ak != bk) = false := by simpa using h3
    have v1 := itemOk_ver h1
    have v2 := itemOk_ver h2
    have QE := Aside0.mk (show newerE ac ax bc bx = 0 by simp [newerE, v1, v2])
    have HN : newerR ac ax bc bx = newerB ac ax bc bx := by simp [newerR, v1, v2]
    cases h6 : newerB ac ax bc bx
    ·have QN := Aside0.mk (HN.trans h6)
     cases h7 : (ac == bc && ax == bx)
     ·have h5 : betterB ⟨ak, ⟨ac, ax⟩, av, ag⟩ ⟨bk, ⟨bc, bx⟩, bv, bg⟩ = false := by unfold betterB; simp only [h7]; exact h6
      rw [show bestI ⟨ak, ⟨ac, ax⟩, av, ag⟩ ⟨bk, ⟨bc, bx⟩, bv, bg⟩ = ⟨bk, ⟨bc, bx⟩, bv, bg⟩ by simp only [bestI, bestB, itemOk, h1, h2, h3, h5]; rfl, show bestE ⟨ak, ⟨ac, ax⟩, av, ag⟩ ⟨bk, ⟨bc, bx⟩, bv, bg⟩ = 0 by simp only [bestE, bestB, itemOk, h1, h2, h3]; rfl]
      clear HN h6 h5 v1 v2
      go_enter Tryz.func30, Tryz.ntmps30
      go_wp2_with (first | (with_reducible refine box_tc rfl (N := 2) rfl (cs := #[.int .i64 ak, .int .i64 ac, .int .i64 ax, .int .i64 av, .bool ag]) (t := 48) ?hr ?_; (case hr => go_simp <;> rfl); intro g1 wg1 _ _ _) | (with_reducible refine box_tc rfl (N := 3) rfl (cs := #[.int .i64 bk, .int .i64 bc, .int .i64 bx, .int .i64 bv, .bool bg]) (t := 48) ?hr ?_; (case hr => go_simp <;> rfl); intro g2 wg2 _ _ _) | (with_reducible refine box_tc rfl (N := 4) rfl (cs := #[.int .i64 0, .int .i64 0, .int .i64 0, .int .i64 0, .bool false]) (t := 48) ?hr ?_; (case hr => go_simp <;> rfl); intro g3 wg3 _ _ _) | (go_at_call 85; (with_reducible refine cM (refItem_) ?_); rintro e wb ⟨rfl, hb⟩) | (go_at_call 86; (with_reducible refine cM (refNewer_) ?_); rw [QN.out, QE.out]; rintro e wn ⟨rfl, hn⟩))
      exact bodyPost_ret (v := .tuple #[.agg #[.int .i64 bk, .int .i64 bc, .int .i64 bx, .int .i64 bv, .bool bg], .int .i64 0]) (by simp [results, Tryz.results30, go_sem]) rfl ⟨rfl, belL⟩
     ·simp only [Bool.and_eq_true, beq_iff_eq] at h7
      obtain ⟨rfl, rfl⟩ := h7
      cases bg
      ·cases ag
       ·by_cases h8 : bv < av
        ·have h5 : betterB ⟨ak, ⟨ac, ax⟩, av, false⟩ ⟨bk, ⟨ac, ax⟩, bv, false⟩ = true := by simp [betterB, h8]
         rw [show bestI ⟨ak, ⟨ac, ax⟩, av, false⟩ ⟨bk, ⟨ac, ax⟩, bv, false⟩ = ⟨ak, ⟨ac, ax⟩, av, false⟩ by simp only [bestI, bestB, itemOk, h1, h2, h3, h5]; rfl, show bestE ⟨ak, ⟨ac, ax⟩, av, false⟩ ⟨bk, ⟨ac, ax⟩, bv, false⟩ = 0 by simp only [bestE, bestB, itemOk, h1, h2, h3]; rfl]
         have h9 : decide (av ≤ bv) = false := decide_eq_false (by omega)
         clear HN h6 h5 v1 v2 h8
         go_enter Tryz.func30, Tryz.ntmps30
         go_wp2_with (first | (with_reducible refine box_tc rfl (N := 2) rfl (cs := #[.int .i64 ak, .int .i64 ac, .int .i64 ax, .int .i64 av, .bool false]) (t := 48) ?hr ?_; (case hr => go_simp <;> rfl); intro g1 wg1 _ _ _) | (with_reducible refine box_tc rfl (N := 3) rfl (cs := #[.int .i64 bk, .int .i64 ac, .int .i64 ax, .int .i64 bv, .bool false]) (t := 48) ?hr ?_; (case hr => go_simp <;> rfl); intro g2 wg2 _ _ _) | (with_reducible refine box_tc rfl (N := 4) rfl (cs := #[.int .i64 0, .int .i64 0, .int .i64 0, .int .i64 0, .bool false]) (t := 48) ?hr ?_; (case hr => go_simp <;> rfl); intro g3 wg3 _ _ _) | (go_at_call 85; (with_reducible refine cM (refItem_) ?_); rintro e wb ⟨rfl, hb⟩) | (go_at_call 86; (with_reducible refine cM (refNewer_) ?_); rw [QN.out, QE.out]; rintro e wn ⟨rfl, hn⟩))
         exact bodyPost_ret (v := .tuple #[.agg #[.int .i64 ak, .int .i64 ac, .int .i64 ax, .int .i64 av, .bool false], .int .i64 0]) (by simp [results, Tryz.results30, go_sem]) rfl ⟨rfl, belL⟩
        ·have h5 : betterB ⟨ak, ⟨ac, ax⟩, av, false⟩ ⟨bk, ⟨ac, ax⟩, bv, false⟩ = false := by simp [betterB, h8]
         rw [show bestI ⟨ak, ⟨ac, ax⟩, av, false⟩ ⟨bk, ⟨ac, ax⟩, bv, false⟩ = ⟨bk, ⟨ac, ax⟩, bv, false⟩ by simp only [bestI, bestB, itemOk, h1, h2, h3, h5]; rfl, show bestE ⟨ak, ⟨ac, ax⟩, av, false⟩ ⟨bk, ⟨ac, ax⟩, bv, false⟩ = 0 by simp only [bestE, bestB, itemOk, h1, h2, h3]; rfl]
         have h9 : decide (av ≤ bv) = true := decide_eq_true (by omega)
         clear HN h6 h5 v1 v2 h8
         go_enter Tryz.func30, Tryz.ntmps30
         go_wp2_with (first | (with_reducible refine box_tc rfl (N := 2) rfl (cs := #[.int .i64 ak, .int .i64 ac, .int .i64 ax, .int .i64 av, .bool false]) (t := 48) ?hr ?_; (case hr => go_simp <;> rfl); intro g1 wg1 _ _ _) | (with_reducible refine box_tc rfl (N := 3) rfl (cs := #[.int .i64 bk, .int .i64 ac, .int .i64 ax, .int .i64 bv, .bool false]) (t := 48) ?hr ?_; (case hr => go_simp <;> rfl); intro g2 wg2 _ _ _) | (with_reducible refine box_tc rfl (N := 4) rfl (cs := #[.int .i64 0, .int .i64 0, .int .i64 0, .int .i64 0, .bool false]) (t := 48) ?hr ?_; (case hr => go_simp <;> rfl); intro g3 wg3 _ _ _) | (go_at_call 85; (with_reducible refine cM (refItem_) ?_); rintro e wb ⟨rfl, hb⟩) | (go_at_call 86; (with_reducible refine cM (refNewer_) ?_); rw [QN.out, QE.out]; rintro e wn ⟨rfl, hn⟩))
         exact bodyPost_ret (v := .tuple #[.agg #[.int .i64 bk, .int .i64 ac, .int .i64 ax, .int .i64 bv, .bool false], .int .i64 0]) (by simp [results, Tryz.results30, go_sem]) rfl ⟨rfl, belL⟩
       ·have h5 : betterB ⟨ak, ⟨ac, ax⟩, av, true⟩ ⟨bk, ⟨ac, ax⟩, bv, false⟩ = true := by simp [betterB]
        rw [show bestI ⟨ak, ⟨ac, ax⟩, av, true⟩ ⟨bk, ⟨ac, ax⟩, bv, false⟩ = ⟨ak, ⟨ac, ax⟩, av, true⟩ by simp only [bestI, bestB, itemOk, h1, h2, h3, h5]; rfl, show bestE ⟨ak, ⟨ac, ax⟩, av, true⟩ ⟨bk, ⟨ac, ax⟩, bv, false⟩ = 0 by simp only [bestE, bestB, itemOk, h1, h2, h3]; rfl]
        clear HN h6 h5 v1 v2
        go_enter Tryz.func30, Tryz.ntmps30
        go_wp2_with (first | (with_reducible refine box_tc rfl (N := 2) rfl (cs := #[.int .i64 ak, .int .i64 ac, .int .i64 ax, .int .i64 av, .bool true]) (t := 48) ?hr ?_; (case hr => go_simp <;> rfl); intro g1 wg1 _ _ _) | (with_reducible refine box_tc rfl (N := 3) rfl (cs := #[.int .i64 bk, .int .i64 ac, .int .i64 ax, .int .i64 bv, .bool false]) (t := 48) ?hr ?_; (case hr => go_simp <;> rfl); intro g2 wg2 _ _ _) | (with_reducible refine box_tc rfl (N := 4) rfl (cs := #[.int .i64 0, .int .i64 0, .int .i64 0, .int .i64 0, .bool false]) (t := 48) ?hr ?_; (case hr => go_simp <;> rfl); intro g3 wg3 _ _ _) | (go_at_call 85; (with_reducible refine cM (refItem_) ?_); rintro e wb ⟨rfl, hb⟩) | (go_at_call 86; (with_reducible refine cM (refNewer_) ?_); rw [QN.out, QE.out]; rintro e wn ⟨rfl, hn⟩))
        exact bodyPost_ret (v := .tuple #[.agg #[.int .i64 ak, .int .i64 ac, .int .i64 ax, .int .i64 av, .bool true], .int .i64 0]) (by simp [results, Tryz.results30, go_sem]) rfl ⟨rfl, belL⟩
      ·have h5 : betterB ⟨ak, ⟨ac, ax⟩, av, ag⟩ ⟨bk, ⟨ac, ax⟩, bv, true⟩ = false := by
        cases ag
        ·simp [betterB]
        ·have := item_gone h1
         have := item_gone h2
         simp [betterB]
         omega
       rw [show bestI ⟨ak, ⟨ac, ax⟩, av, ag⟩ ⟨bk, ⟨ac, ax⟩, bv, true⟩ = ⟨bk, ⟨ac, ax⟩, bv, true⟩ by simp only [bestI, bestB, itemOk, h1, h2, h3, h5]; rfl, show bestE ⟨ak, ⟨ac, ax⟩, av, ag⟩ ⟨bk, ⟨ac, ax⟩, bv, true⟩ = 0 by simp only [bestE, bestB, itemOk, h1, h2, h3]; rfl]
       clear HN h6 h5 v1 v2
       go_enter Tryz.func30, Tryz.ntmps30
       go_wp2_with (first | (with_reducible refine box_tc rfl (N := 2) rfl (cs := #[.int .i64 ak, .int .i64 ac, .int .i64 ax, .int .i64 av, .bool ag]) (t := 48) ?hr ?_; (case hr => go_simp <;> rfl); intro g1 wg1 _ _ _) | (with_reducible refine box_tc rfl (N := 3) rfl (cs := #[.int .i64 bk, .int .i64 ac, .int .i64 ax, .int .i64 bv, .bool true]) (t := 48) ?hr ?_; (case hr => go_simp <;> rfl); intro g2 wg2 _ _ _) | (with_reducible refine box_tc rfl (N := 4) rfl (cs := #[.int .i64 0, .int .i64 0, .int .i64 0, .int .i64 0, .bool false]) (t := 48) ?hr ?_; (case hr => go_simp <;> rfl); intro g3 wg3 _ _ _) | (go_at_call 85; (with_reducible refine cM (refItem_) ?_); rintro e wb ⟨rfl, hb⟩) | (go_at_call 86; (with_reducible refine cM (refNewer_) ?_); rw [QN.out, QE.out]; rintro e wn ⟨rfl, hn⟩))
       exact bodyPost_ret (v := .tuple #[.agg #[.int .i64 bk, .int .i64 ac, .int .i64 ax, .int .i64 bv, .bool true], .int .i64 0]) (by simp [results, Tryz.results30, go_sem]) rfl ⟨rfl, belL⟩
    ·have QN := Aside0.mk (HN.trans h6)
     have h5 : betterB ⟨ak, ⟨ac, ax⟩, av, ag⟩ ⟨bk, ⟨bc, bx⟩, bv, bg⟩ = true := by
      unfold betterB
      cases h7 : (ac == bc && ax == bx)
      ·exact h6
      ·simp only [Bool.and_eq_true, beq_iff_eq] at h7
       obtain ⟨rfl, rfl⟩ := h7
       simp [newerB] at h6
     rw [show bestI ⟨ak, ⟨ac, ax⟩, av, ag⟩ ⟨bk, ⟨bc, bx⟩, bv, bg⟩ = ⟨ak, ⟨ac, ax⟩, av, ag⟩ by simp only [bestI, bestB, itemOk, h1, h2, h3, h5]; rfl, show bestE ⟨ak, ⟨ac, ax⟩, av, ag⟩ ⟨bk, ⟨bc, bx⟩, bv, bg⟩ = 0 by simp only [bestE, bestB, itemOk, h1, h2, h3]; rfl]
     clear HN h6 h5 v1 v2
     go_enter Tryz.func30, Tryz.ntmps30
     go_wp2_with (first | (with_reducible refine box_tc rfl (N := 2) rfl (cs := #[.int .i64 ak, .int .i64 ac, .int .i64 ax, .int .i64 av, .bool ag]) (t := 48) ?hr ?_; (case hr => go_simp <;> rfl); intro g1 wg1 _ _ _) | (with_reducible refine box_tc rfl (N := 3) rfl (cs := #[.int .i64 bk, .int .i64 bc, .int .i64 bx, .int .i64 bv, .bool bg]) (t := 48) ?hr ?_; (case hr => go_simp <;> rfl); intro g2 wg2 _ _ _) | (with_reducible refine box_tc rfl (N := 4) rfl (cs := #[.int .i64 0, .int .i64 0, .int .i64 0, .int .i64 0, .bool false]) (t := 48) ?hr ?_; (case hr => go_simp <;> rfl); intro g3 wg3 _ _ _) | (go_at_call 85; (with_reducible refine cM (refItem_) ?_); rintro e wb ⟨rfl, hb⟩) | (go_at_call 86; (with_reducible refine cM (refNewer_) ?_); rw [QN.out, QE.out]; rintro e wn ⟨rfl, hn⟩))
     exact bodyPost_ret (v := .tuple #[.agg #[.int .i64 ak, .int .i64 ac, .int .i64 ax, .int .i64 av, .bool ag], .int .i64 0]) (by simp [results, Tryz.results30, go_sem]) rfl ⟨rfl, belL⟩
end
structure Grow (H : Int → Prop) (s s' : List S98 × List Int) : Prop where
 stay : ∀ p ∈ s.1, p ∈ s'.1 ∨ (⟨p.f0, 0⟩ : S98) ∈ s'.1
 back : ∀ p ∈ s'.1, p ∈ s.1 ∨ (p.f1 = 0 ∧ (H p.f0 ∨ p.f0 ∉ idsOf s.1 ++ s.2))
 know : ∀ y ∈ s.2, y ∈ s'.2 ∨ (⟨y, 0⟩ : S98) ∈ s'.1
 pass : ∀ y ∈ s'.2, y ∈ s.2
 keep : ∀ y ∈ s.2, ¬ H y → y ∈ s'.2
theorem Grow.refl {H : Int → Prop} (s : List S98 × List Int) : Grow H s s := ⟨fun _ h => .inl h, fun _ h => .inl h, fun _ h => .inl h, fun _ h => h, fun _ h _ => h⟩
theorem Grow.known {H : Int → Prop} {s s' : List S98 × List Int} (g : Grow H s s') {y : Int} (h : y ∈ idsOf s.1 ++ s.2) : y ∈ idsOf s'.1 ++ s'.2 := by
 rcases List.mem_append.1 h with h | h
 ·obtain ⟨p, hp, rfl⟩ := mem_idsOf.1 h
  rcases g.stay p hp with h1 | h1
  ·exact List.mem_append_left _ (mem_idsOf.2 ⟨p, h1, rfl⟩)
  ·exact List.mem_append_left _ (mem_idsOf.2 ⟨_, h1, rfl⟩)
 ·rcases g.know y h with h1 | h1
  ·exact List.mem_append_right _ h1
  ·exact List.mem_append_left _ (mem_idsOf.2 ⟨_, h1, rfl⟩)
theorem Grow.fresh {H : Int → Prop} {s s' : List S98 × List Int} (g : Grow H s s') {y : Int} (h : (⟨y, 0⟩ : S98) ∈ s.1) : (⟨y, 0⟩ : S98) ∈ s'.1 := by
 rcases g.stay _ h with h1 | h1 <;> exact h1
theorem Grow.trans {H : Int → Prop} {s s' s2 : List S98 × List Int} (g : Grow H s s') (k : Grow H s' s2) : Grow H s s2 := by
 refine ⟨fun p hp => ?_, fun p hp => ?_, fun y hy => ?_, fun y hy => g.pass y (k.pass y hy), fun y hy hn => k.keep y (g.keep y hy hn) hn⟩
 ·rcases g.stay p hp with h | h
  ·exact k.stay p h
  ·exact .inr (k.fresh h)
 ·rcases k.back p hp with h | ⟨h, h1⟩
  ·exact g.back p h
  ·refine .inr ⟨h, ?_⟩
   rcases h1 with h1 | h1
   ·exact .inl h1
   ·exact .inr fun hc => h1 (g.known hc)
 ·rcases g.know y hy with h | h
  ·exact k.know y h
  ·exact .inr (k.fresh h)
theorem nodup_by {α : Type} {f : α → Int} {g : α → Int} : ∀ {l : List α}, Rises f l → (∀ a ∈ l, ∀ b ∈ l, g a = g b → f a = f b) → (l.map g).Nodup
 | [], _, _ => List.nodup_nil
 | a :: l, h, hg => by
   rw [List.map_cons, List.nodup_cons]
   refine ⟨fun hm => ?_, nodup_by h.tail fun a ha b hb => hg a (List.mem_cons_of_mem _ ha) b (List.mem_cons_of_mem _ hb)⟩
   obtain ⟨b, hb, e⟩ := List.mem_map.1 hm
   have h1 := (List.pairwise_cons.1 h).1 b hb
   have h2 := hg b (List.mem_cons_of_mem _ hb) a (List.mem_cons_self ..) e
   omega
theorem named_nodup {id : Int} {ps : List S98} {xs : List Int} (h : VOk id ps xs) : (idsOf ps ++ xs).Nodup := by
 rw [List.nodup_append]
 refine ⟨nodup_by h.rp fun a ha b hb e => by show farI id a.f0 = farI id b.f0; rw [e], ?_, ?_⟩
 ·have := nodup_by (g := fun y : Int => y) h.rx fun a ha b hb e => e
  simpa using this
 ·intro a ha b hb e
  obtain ⟨p, hp, rfl⟩ := mem_idsOf.1 ha
  exact (h.x b hb).2.2 p hp e
theorem named_len {id : Int} {ps : List S98} {xs : List Int} (h : VOk id ps xs) {N : List Int} (hN : ∀ y ∈ idsOf ps ++ xs, y ∈ N) : ps.length + xs.length ≤ N.length := by
 have := nodup_le (named_nodup h) hN
 rwa [List.length_append, idsOf_len] at this
theorem grow_hear1 {H : Int → Prop} {id x : Int} {s : List S98 × List Int} (h : VOk id s.1 s.2) (hx : placeB x = true) (hn : x ≠ id) (hr : s.1.length + s.2.length < 16) (hH : H x ∨ x ∉ idsOf s.1 ++ s.2) : Grow H s (hear1 id s x) ∧ (⟨x, 0⟩ : S98) ∈ (hear1 id s x).1 := by
 obtain ⟨e1, e2⟩ := (hear_ok h hx hn).2 (.inr (.inr hr))
 unfold hear1
 rw [e1, e2]
 refine ⟨⟨fun p hp => ?_, fun p hp => ?_, fun y hy => ?_, fun y hy => (List.mem_filter.1 hy).1, fun y hy hny => ?_⟩, mem_ins.2 (.inl rfl)⟩
 ·by_cases e : p.f0 = x
  ·exact .inr (mem_ins.2 (.inl (by rw [e])))
  ·exact .inl (mem_ins.2 (.inr ⟨hp, fun hc => e (farI_inj (h.p p hp).1 hx hc)⟩))
 ·rcases mem_ins.1 hp with rfl | ⟨h1, _⟩
  ·exact .inr ⟨rfl, hH⟩
  ·exact .inl h1
 ·by_cases e : y = x
  ·exact .inr (mem_ins.2 (.inl (by rw [e])))
  ·exact .inl (List.mem_filter.2 ⟨hy, by simpa using e⟩)
 ·refine List.mem_filter.2 ⟨hy, ?_⟩
  have : y ≠ x := fun e => by
   rcases hH with h1 | h1
   ·exact hny (e ▸ h1)
   ·exact h1 (e ▸ List.mem_append_right _ hy)
  simpa using this
theorem hearMany_grow {H : Int → Prop} {id : Int} {N : List Int} (hl : N.length ≤ 8) {ids : List Int} : ∀ {s : List S98 × List Int} (_ : VOk id s.1 s.2) (_ : ∀ y ∈ idsOf s.1 ++ s.2, y ∈ N) (_ : ∀ x ∈ ids, placeB x = true ∧ x ∈ N), Grow H s (hearMany id s ids) ∧ ∀ y ∈ ids, y ≠ id → y ∈ idsOf (hearMany id s ids).1 ++ (hearMany id s ids).2 := by
 induction ids with
 | nil => exact fun _ _ _ => ⟨Grow.refl _, fun y hy => (nomatch hy)⟩
 | cons z zs ih =>
   intro s h hN hp
   have hz := hp z (List.mem_cons_self ..)
   have hr := named_len h hN
   have hstep : Grow H s (hearStep id s z) ∧ (z ≠ id → z ∈ idsOf (hearStep id s z).1 ++ (hearStep id s z).2) := by
    unfold hearStep
    split
    ·rename_i hc
     refine ⟨Grow.refl _, fun hzi => ?_⟩
     simp only [Bool.or_eq_true, beq_iff_eq, memB_iff] at hc
     rcases hc with (hc | hc) | hc
     ·exact absurd hc hzi
     ·obtain ⟨p, h1, h2⟩ := knownB_iff.1 hc
      exact List.mem_append_left _ (mem_idsOf.2 ⟨p, h1, h2⟩)
     ·exact List.mem_append_right _ hc
    ·rename_i hc
     have hzi : z ≠ id := fun e => hc (by simp [e])
     have hzk : z ∉ idsOf s.1 ++ s.2 := fun hk => by
      rcases List.mem_append.1 hk with hk | hk
      ·obtain ⟨p, h1, h2⟩ := mem_idsOf.1 hk
       exact hc (by rw [knownB_iff.2 ⟨p, h1, h2⟩]; simp)
      ·exact hc (by rw [memB_iff.2 hk]; simp)
     obtain ⟨g, hf⟩ := grow_hear1 (H := H) h hz.1 hzi (by omega) (.inr hzk)
     exact ⟨g, fun _ => List.mem_append_left _ (mem_idsOf.2 ⟨_, hf, rfl⟩)⟩
   have hN2 : ∀ y ∈ idsOf (hearStep id s z).1 ++ (hearStep id s z).2, y ∈ N := fun y hy => by
    unfold hearStep at hy
    split at hy
    ·exact hN y hy
    ·rename_i hc
     rcases hear1_named h hz.1 (fun e => hc (by simp [e])) hy with h1 | h1
     ·exact hN y h1
     ·exact h1 ▸ hz.2
   obtain ⟨g2, k2⟩ := ih (hearStep_ok h hz.1) hN2 (fun x hx => hp x (List.mem_cons_of_mem _ hx))
   refine ⟨hstep.1.trans g2, fun y hy hyi => ?_⟩
   rcases List.mem_cons.1 hy with rfl | hy
   ·exact g2.known (hstep.2 hyi)
   ·exact k2 y hy hyi
def rankI (i : S48) : Int := ((i.f1.f0 * 256 + i.f1.f1) * 2 + (if i.f3 then 1 else 0)) * 256 + i.f2
theorem itemOk_iff {i : S48} : itemOk i = true ↔ (0 ≤ i.f0 ∧ i.f0 < 256) ∧ (0 ≤ i.f2 ∧ i.f2 < 256) ∧ (1 ≤ i.f1.f0 ∧ i.f1.f0 ≤ 65535) ∧ (0 ≤ i.f1.f1 ∧ i.f1.f1 < 256) ∧ (i.f3 = true → i.f2 = 0) := by
 unfold itemOk itemB verB placeB
 simp only [Bool.and_eq_true, decide_eq_true_eq, Bool.or_eq_true, Bool.not_eq_true', beq_iff_eq]
 constructor
 ·rintro ⟨⟨⟨a, b⟩, c, d⟩, e⟩
  refine ⟨a, b, c, d, fun h => ?_⟩
  rcases e with e | e
  ·rw [h] at e; cases e
  ·exact e
 ·rintro ⟨a, b, c, d, e⟩
  refine ⟨⟨⟨a, b⟩, c, d⟩, ?_⟩
  cases h : i.f3
  ·exact .inl rfl
  ·exact .inr (e h)
theorem better_rank {a b : S48} (ha : itemOk a = true) (hb : itemOk b = true) : betterB a b = decide (rankI b < rankI a) := by
 obtain ⟨_, a1, a2, a3, a4⟩ := itemOk_iff.1 ha
 obtain ⟨_, b1, b2, b3, b4⟩ := itemOk_iff.1 hb
 unfold betterB rankI newerB
 generalize a.f1.f0 = ac at *
 generalize a.f1.f1 = aw at *
 generalize a.f2 = av at *
 generalize a.f3 = ag at *
 generalize b.f1.f0 = bc at *
 generalize b.f1.f1 = bw at *
 generalize b.f2 = bv at *
 generalize b.f3 = bg at *
 rw [Bool.eq_iff_iff]
 cases ag <;> cases bg <;> simp only [Bool.and_eq_true, beq_iff_eq, Bool.false_eq_true, Bool.true_eq_false, if_true, if_false, reduceIte, false_implies, true_implies, forall_const, reduceCtorEq] at * <;> split <;> simp only [Bool.or_eq_true, Bool.and_eq_true, beq_iff_eq, decide_eq_true_eq, true_iff, Bool.false_eq_true, false_iff] <;> omega
theorem best_rank {a b : S48} (ha : itemOk a = true) (hb : itemOk b = true) (e : a.f0 = b.f0) : bestI a b = if rankI b < rankI a then a else b := by
 have hB : bestB a b = true := by unfold bestB; rw [ha, hb]; simpa using e
 unfold bestI
 rw [if_pos hB, better_rank ha hb]
 simp only [decide_eq_true_eq]
theorem rank_inj {a b : S48} (ha : itemOk a = true) (hb : itemOk b = true) (e : a.f0 = b.f0) (h : rankI a = rankI b) : a = b := by
 obtain ⟨_, a1, a2, a3, a4⟩ := itemOk_iff.1 ha
 obtain ⟨_, b1, b2, b3, b4⟩ := itemOk_iff.1 hb
 unfold rankI at h
 obtain ⟨ak, ⟨ac, aw⟩, av, ag⟩ := a
 obtain ⟨bk, ⟨bc, bw⟩, bv, bg⟩ := b
 simp only at *
 have hg : ag = bg ∧ ac = bc ∧ aw = bw ∧ av = bv := by
  cases ag <;> cases bg <;> simp only [if_true, if_false, reduceIte, Bool.false_eq_true, Bool.true_eq_false, reduceCtorEq, false_implies, forall_const, true_and, false_and, and_false] at * <;> omega
 obtain ⟨rfl, rfl, rfl, rfl⟩ := hg
 rw [e]
theorem best_ge {a b : S48} (ha : itemOk a = true) (hb : itemOk b = true) (e : a.f0 = b.f0) : rankI a ≤ rankI (bestI a b) ∧ rankI b ≤ rankI (bestI a b) := by
 rw [best_rank ha hb e]
 split <;> omega
theorem take_items {is : List S48} {i : S48} (h : storeB is = true) (hi : itemOk i = true) :
 (∀ a ∈ is, ∃ b ∈ takeL is i, b.f0 = a.f0 ∧ rankI a ≤ rankI b) ∧ (∀ b ∈ takeL is i, b ∈ is ∨ b = i) ∧
 ((is.length < 16 ∨ ∃ a ∈ is, a.f0 = i.f0) → ∃ b ∈ takeL is i, b.f0 = i.f0 ∧ rankI i ≤ rankI b) := by
 obtain ⟨h1, h2, hr⟩ := storeB_iff.1 h
 unfold takeL
 cases hg : getI is i.f0 with
 | some c =>
   obtain ⟨hc, e⟩ := (getI_some h).1 hg
   obtain ⟨p1, p2⟩ := put_in h hi hc e
   obtain ⟨k1, k2, k3⟩ := bestI_key (h2 c hc) hi e
   obtain ⟨g1, g2⟩ := best_ge (h2 c hc) hi e
   rw [if_pos (by simpa using p1), p2]
   refine ⟨fun a ha => ?_, fun b hb => ?_, fun _ => ⟨_, mem_ins.2 (.inl rfl), k1, g2⟩⟩
   ·by_cases e2 : a.f0 = i.f0
    ·have : a = c := rises_inj hr ha hc (by show a.f0 = c.f0; rw [e2, e])
     subst this
     exact ⟨_, mem_ins.2 (.inl rfl), by rw [k1, e2], g1⟩
    ·exact ⟨a, mem_ins.2 (.inr ⟨ha, fun hk => e2 (hk.trans k1)⟩), rfl, Int.le_refl _⟩
   ·rcases mem_ins.1 hb with rfl | ⟨hb, _⟩
    ·rcases k3 with k3 | k3
     ·exact .inl (by rw [k3]; exact hc)
     ·exact .inr k3
    ·exact .inl hb
 | none =>
   have hn := (getI_none h).1 hg
   obtain ⟨n1, n2⟩ := put_new h hi hn
   by_cases h16 : is.length = 16
   ·rw [if_neg (by rw [n1 h16]; decide)]
    refine ⟨fun a ha => ⟨a, ha, rfl, Int.le_refl _⟩, fun b hb => .inl hb, fun hc => ?_⟩
    rcases hc with hc | ⟨a, ha, e⟩
    ·omega
    ·exact absurd e (hn a ha)
   ·obtain ⟨p1, p2⟩ := n2 h16
    rw [if_pos (by simpa using p1), p2]
    refine ⟨fun a ha => ⟨a, mem_ins.2 (.inr ⟨ha, hn a ha⟩), rfl, Int.le_refl _⟩, fun b hb => ?_, fun _ => ⟨i, mem_ins.2 (.inl rfl), rfl, Int.le_refl _⟩⟩
    rcases mem_ins.1 hb with rfl | ⟨hb, _⟩
    ·exact .inr rfl
    ·exact .inl hb
theorem keys_nodup {is : List S48} (h : storeB is = true) : (is.map keyI).Nodup := nodup_by (storeB_iff.1 h).2.2 fun a _ b _ e => e
theorem keys_room {is : List S48} {Ks : List Int} (h : storeB is = true) (hk : ∀ a ∈ is, a.f0 ∈ Ks) (hl : Ks.length ≤ 16) {k : Int} (hi : k ∈ Ks) : is.length < 16 ∨ ∃ a ∈ is, a.f0 = k := by
 by_cases hc : ∃ a ∈ is, a.f0 = k
 ·exact .inr hc
 ·left
  have hn : (k :: is.map keyI).Nodup := List.nodup_cons.2 ⟨fun hm => by
   obtain ⟨a, ha, e⟩ := List.mem_map.1 hm
   exact hc ⟨a, ha, e⟩, keys_nodup h⟩
  have := nodup_le hn (l' := Ks) fun y hy => by
   rcases List.mem_cons.1 hy with rfl | hy
   ·exact hi
   ·obtain ⟨a, ha, rfl⟩ := List.mem_map.1 hy
    exact hk a ha
  rw [List.length_cons, List.length_map] at this
  omega
structure Heard (H : Int → Prop) (L : List S126) (x x' : S40) : Prop where
 ok : nodeB x' = true
 id : nid x' = nid x
 up : x'.f0 = true
 grow : Grow H (x.f1.f1, x.f1.f2) (x'.f1.f1, x'.f1.f2)
 heard : ∀ m ∈ L, m.f0 = 0 → (⟨m.f1, 0⟩ : S98) ∈ x'.f1.f1 ∧ ∀ y ∈ m.f3, y ≠ nid x → y ∈ namedN1 x'
 mono : ∀ a ∈ x.f2, ∃ b ∈ x'.f2, b.f0 = a.f0 ∧ rankI a ≤ rankI b
 orig : ∀ b ∈ x'.f2, b ∈ x.f2 ∨ ∃ m ∈ L, m.f0 = 1 ∧ m.f5 = b
 has : ∀ Ks : List Int, Ks.length ≤ 16 → (∀ a ∈ x.f2, a.f0 ∈ Ks) → (∀ m ∈ L, m.f0 = 1 → m.f5.f0 ∈ Ks) → ∀ m ∈ L, m.f0 = 1 → ∃ b ∈ x'.f2, b.f0 = m.f5.f0 ∧ rankI m.f5 ≤ rankI b
 log : (∀ m ∈ L, m.f0 ≠ 3) → x'.f3 = x.f3
theorem Heard.nil {H : Int → Prop} {x : S40} (h : nodeB x = true) (hu : x.f0 = true) : Heard H [] x x :=
 ⟨h, rfl, hu, Grow.refl _, fun m hm => (nomatch hm), fun a ha => ⟨a, ha, rfl, Int.le_refl _⟩, fun b hb => .inl hb, fun _ _ _ _ m hm => (nomatch hm), fun _ => rfl⟩
theorem hand_view {x : S40} {m : S126} (h : nodeB x = true) (hm : msgB m = true) (hto : m.f2 = nid x) (k : m.f0 = 0) : (handN x m).f1 = ⟨x.f1.f0, (takeS x.f1 m.f1 m.f3).1, (takeS x.f1 m.f1 m.f3).2⟩ := by
 have ht := hello_take h hm hto k
 unfold handN
 rw [if_pos k]
 show takeV x.f1 m.f1 m.f3 = _
 unfold takeV
 rw [if_pos ht]
theorem hand_heard {H : Int → Prop} {N : List Int} {x : S40} {m : S126} (hl : N.length ≤ 8) (h : nodeB x = true) (hu : x.f0 = true) (hN : ∀ y ∈ namedN1 x, y ∈ N) (hm : msgB m = true) (hto : m.f2 = nid x) (hmN : ∀ y ∈ namedM1 m, y ∈ N) (hH : m.f0 = 0 → H m.f1) : Heard H [m] x (handN x m) := by
 obtain ⟨q1, q2, q3, q4⟩ := handN_ok h hu hm hto
 obtain ⟨hk, p1, p2, p3, hit⟩ := msgB_kind hm
 obtain ⟨_, h2, h3, h4, h5⟩ := nodeB_iff.1 h
 have hone : ∀ {p : S126 → Prop}, (∀ o ∈ [m], p o) ↔ p m := by simp
 by_cases k : m.f0 = 0
 ·have ht := hello_take h hm hto k
  obtain ⟨_, t1, t2, _, t4⟩ := takeB_iff.1 ht
  have hv := hand_view h hm hto k
  have hr := named_len h2 hN
  obtain ⟨g1, f1⟩ := grow_hear1 (H := H) (s := (x.f1.f1, x.f1.f2)) h2 t1 t2 (by show x.f1.f1.length + x.f1.f2.length < 16; omega) (.inl (hH k))
  have hok1 := (hear_ok h2 t1 t2).1
  have hN1 : ∀ y ∈ idsOf (hear1 x.f1.f0 (x.f1.f1, x.f1.f2) m.f1).1 ++ (hear1 x.f1.f0 (x.f1.f1, x.f1.f2) m.f1).2, y ∈ N := fun y hy => by
   rcases hear1_named (s := (x.f1.f1, x.f1.f2)) h2 t1 t2 hy with h7 | h7
   ·exact hN y h7
   ·exact h7 ▸ hmN _ (by simp [namedM1])
  obtain ⟨g2, k2⟩ := hearMany_grow (H := H) hl (ids := m.f3) (s := hear1 x.f1.f0 (x.f1.f1, x.f1.f2) m.f1) hok1 hN1 (fun y hy => ⟨t4 y hy, hmN y (by simp [namedM1, hy])⟩)
  have e2 : (handN x m).f2 = x.f2 := by unfold handN; rw [if_pos k]
  have e3 : (handN x m).f3 = x.f3 := by unfold handN; rw [if_pos k]
  refine ⟨q1, q2, q3, ?_, ?_, ?_, ?_, ?_, fun _ => e3⟩
  ·rw [hv]; exact g1.trans g2
  ·rw [hone]
   intro _
   unfold namedN1
   rw [hv]
   exact ⟨g2.fresh f1, fun y hy hn => k2 y hy hn⟩
  ·rw [e2]; exact fun a ha => ⟨a, ha, rfl, Int.le_refl _⟩
  ·rw [e2]; exact fun b hb => .inl hb
  ·intro _ _ _ _
   rw [hone]
   intro k1; omega
 ·have hview : (handN x m).f1 = x.f1 := by
   unfold handN
   rw [if_neg k]
   split
   ·rfl
   ·split <;> rfl
  have hgrow : Grow H (x.f1.f1, x.f1.f2) ((handN x m).f1.f1, (handN x m).f1.f2) := by rw [hview]; exact Grow.refl _
  by_cases k1 : m.f0 = 1
  ·have hi := hit k1
   have e2 : (handN x m).f2 = takeL x.f2 m.f5 := by unfold handN; rw [if_neg k, if_pos k1]
   have e3 : (handN x m).f3 = x.f3 := by unfold handN; rw [if_neg k, if_pos k1]
   obtain ⟨i1, i2, i3⟩ := take_items h3 hi
   refine ⟨q1, q2, q3, hgrow, fun o ho k0 => absurd (List.mem_singleton.1 ho ▸ k0) k, ?_, ?_, ?_, fun _ => e3⟩
   ·rw [e2]; exact i1
   ·rw [e2]
    intro b hb
    rcases i2 b hb with hb | hb
    ·exact .inl hb
    ·exact .inr ⟨m, List.mem_singleton.2 rfl, k1, hb.symm⟩
   ·intro Ks hKl hKx hKm
    rw [hone] at hKm ⊢
    intro _
    rw [e2]
    exact i3 (keys_room h3 hKx hKl (hKm k1))
  ·have e2 : (handN x m).f2 = x.f2 := by
    unfold handN
    rw [if_neg k, if_neg k1]
    split <;> rfl
   refine ⟨q1, q2, q3, hgrow, fun o ho k0 => absurd (List.mem_singleton.1 ho ▸ k0) k, ?_, ?_, ?_, fun hn => ?_⟩
   ·rw [e2]; exact fun a ha => ⟨a, ha, rfl, Int.le_refl _⟩
   ·rw [e2]; exact fun b hb => .inl hb
   ·intro _ _ _ _
    rw [hone]
    intro k2; exact absurd k2 k1
   ·rw [hone] at hn
    unfold handN
    rw [if_neg k, if_neg k1]
    split
    ·rfl
    ·omega
theorem Heard.trans {H : Int → Prop} {L K : List S126} {x y z : S40} (h : Heard H L x y) (k : Heard H K y z) : Heard H (L ++ K) x z := by
 refine ⟨k.ok, k.id.trans h.id, k.up, h.grow.trans k.grow, fun m hm k0 => ?_, fun a ha => ?_, fun b hb => ?_, fun Ks h1 h2 h3 m hm k1 => ?_, fun hn => ?_⟩
 ·rcases List.mem_append.1 hm with hm | hm
  ·obtain ⟨a, b⟩ := h.heard m hm k0
   exact ⟨k.grow.fresh a, fun y hy hn => k.grow.known (b y hy hn)⟩
  ·obtain ⟨a, b⟩ := k.heard m hm k0
   exact ⟨a, fun y hy hn => b y hy (h.id ▸ hn)⟩
 ·obtain ⟨b, hb, e, r⟩ := h.mono a ha
  obtain ⟨c, hc, e2, r2⟩ := k.mono b hb
  exact ⟨c, hc, e2.trans e, Int.le_trans r r2⟩
 ·rcases k.orig b hb with hb | ⟨m, hm, e⟩
  ·rcases h.orig b hb with hb | ⟨m, hm, e⟩
   ·exact .inl hb
   ·exact .inr ⟨m, List.mem_append_left _ hm, e⟩
  ·exact .inr ⟨m, List.mem_append_right _ hm, e⟩
 ·have hKy : ∀ a ∈ y.f2, a.f0 ∈ Ks := fun a ha => by
   rcases h.orig a ha with ha | ⟨o, ho, e1, e2⟩
   ·exact h2 a ha
   ·exact e2 ▸ h3 o (List.mem_append_left _ ho) e1
  rcases List.mem_append.1 hm with hm | hm
  ·obtain ⟨b, hb, e, r⟩ := h.has Ks h1 h2 (fun o ho => h3 o (List.mem_append_left _ ho)) m hm k1
   obtain ⟨c, hc, e2, r2⟩ := k.mono b hb
   exact ⟨c, hc, e2.trans e, Int.le_trans r r2⟩
  ·exact k.has Ks h1 hKy (fun o ho => h3 o (List.mem_append_right _ ho)) m hm k1
 ·rw [k.log fun m hm => hn m (List.mem_append_right _ hm), h.log fun m hm => hn m (List.mem_append_left _ hm)]
theorem heard_fold {H : Int → Prop} {N : List Int} (hl : N.length ≤ 8) : ∀ {L : List S126} {x : S40} (_ : nodeB x = true) (_ : x.f0 = true) (_ : ∀ y ∈ namedN1 x, y ∈ N) (_ : ∀ m ∈ L, msgB m = true ∧ m.f2 = nid x ∧ ∀ y ∈ namedM1 m, y ∈ N) (_ : ∀ m ∈ L, m.f0 = 0 → H m.f1), Heard H L x (L.foldl handN x)
 | [], x, h, hu, _, _, _ => Heard.nil h hu
 | m :: L, x, h, hu, hN, hL, hH => by
   obtain ⟨m1, m2, m3⟩ := hL m (List.mem_cons_self ..)
   have h1 := hand_heard (H := H) hl h hu hN m1 m2 m3 (hH m (List.mem_cons_self ..))
   obtain ⟨_, q2, _, q4⟩ := handN_ok h hu m1 m2
   have hN2 : ∀ y ∈ namedN1 (handN x m), y ∈ N := fun y hy => by
    rcases q4 y hy with h5 | h5 | h5
    ·exact hN y h5
    ·exact m3 y (by simp [namedM1, h5])
    ·exact m3 y (by simp [namedM1, h5])
   exact h1.trans (heard_fold hl h1.ok h1.up hN2 (fun o ho => by
    obtain ⟨a, b, c⟩ := hL o (List.mem_cons_of_mem _ ho)
    exact ⟨a, b.trans q2.symm, c⟩) (fun o ho => hH o (List.mem_cons_of_mem _ ho)))
def asks (ms : List S126) : Nat := ms.countP fun m => m.f0 == 2
theorem asks_le (ms : List S126) : asks ms ≤ ms.length := List.countP_le_length
theorem asks_pos {ms : List S126} : 0 < asks ms ↔ ∃ m ∈ ms, m.f0 = 2 := by
 unfold asks
 rw [List.countP_pos_iff]
 simp
theorem sendQ_all {ps ms : List S126} (h : ps.length + ms.length ≤ 512) : sendQ ps ms = ps ++ ms := by
 unfold sendQ
 rw [List.take_of_length_le (by omega)]
theorem node_idx {ns : List S40} (h : nodesB ns = true) {i j : Nat} {x y : S40} (hx : ns[i]? = some x) (hy : ns[j]? = some y) (e : nid x = nid y) : i = j := by
 obtain ⟨hi, rfl⟩ := List.getElem?_eq_some_iff.1 hx
 obtain ⟨hj, rfl⟩ := List.getElem?_eq_some_iff.1 hy
 have hr := (nodesB_iff.1 h).2.2.2
 rcases Nat.lt_trichotomy i j with h1 | h1 | h1
 ·have := List.pairwise_iff_getElem.1 hr i j hi hj h1
  omega
 ·exact h1
 ·have := List.pairwise_iff_getElem.1 hr j i hj hi h1
  omega
theorem node_eq {ns : List S40} (h : nodesB ns = true) {x y : S40} (hx : x ∈ ns) (hy : y ∈ ns) (e : nid x = nid y) : x = y := rises_inj (nodesB_iff.1 h).2.2.2 hx hy e
theorem deliver_cons {ns : List S40} {m : S126} {ms : List S126} (h : OkW (ns, m :: ms)) : ∃ x, ns[placeN ns m.f2]? = some x ∧ nid x = m.f2 ∧ deliverW (ns, m :: ms) 0 = if x.f0 = true then (ns.set (placeN ns m.f2) (handN x m), ms ++ handM x m) else (ns, ms) := by
 obtain ⟨x, hx, e⟩ := place_some h (msg_node h (List.mem_cons_self ..))
 refine ⟨x, hx, e, ?_⟩
 have hm := queueB_msg (mayB_iff.1 h).2.1 (List.mem_cons_self ..)
 have h512 := (queueB_iff.1 (mayB_iff.1 h).2.1).1
 rw [List.length_cons] at h512
 have h1 := (handM_ok (h.node hx).1 hm e.symm).1
 unfold deliverW
 have e0 : 0 % (ns, m :: ms).2.length = 0 := Nat.zero_mod _
 rw [e0]
 show hearW (ns, m :: ms) ((m :: ms).eraseIdx 0) m = _
 unfold hearW
 simp only at hx ⊢
 rw [hx]
 simp only [List.eraseIdx_cons_zero]
 rw [sendQ_all (by omega)]
theorem handM_kind {x : S40} {m o : S126} (h : o ∈ handM x m) : o.f0 = 3 ∧ m.f0 = 2 := by
 unfold handM at h
 split at h
 ·rename_i k
  rw [List.mem_singleton.1 h]
  exact ⟨rfl, k⟩
 ·cases h
theorem asks_hand (x : S40) (m : S126) (ms : List S126) : asks (ms ++ handM x m) = asks ms := by
 unfold asks
 rw [List.countP_append]
 have : (handM x m).countP (fun m => m.f0 == 2) = 0 := List.countP_eq_zero.2 fun o ho => by
  have := (handM_kind ho).1
  simp [this]
 omega
theorem deliver_fold : ∀ (n : Nat) {s : WS}, OkW s → s.2.length + asks s.2 ≤ n → (deliverAll n s).2 = [] ∧ (deliverAll n s).1.map nid = s.1.map nid ∧ ∀ (i : Nat) (x : S40), s.1[i]? = some x → (x.f0 = false → (deliverAll n s).1[i]? = some x) ∧ (x.f0 = true → ∃ L : List S126, (deliverAll n s).1[i]? = some (L.foldl handN x) ∧ (∀ m ∈ L, msgB m = true ∧ m.f2 = nid x ∧ (∀ y ∈ namedM1 m, y ∈ s.1.map nid) ∧ (m ∈ s.2 ∨ (m.f0 = 3 ∧ 0 < asks s.2))) ∧ ∀ m ∈ s.2, m.f2 = nid x → m ∈ L)
 | n, (ns, []), h, hn => by
   rw [deliverAll_nil n rfl]
   exact ⟨rfl, rfl, fun i x hx => ⟨fun _ => hx, fun _ => ⟨[], hx, fun m hm => (nomatch hm), fun m hm => (nomatch hm)⟩⟩⟩
 | 0, (ns, m :: ms), h, hn => by simp at hn
 | n + 1, (ns, m :: ms), h, hn => by
   rw [deliverAll_next n (s := (ns, m :: ms)) (Nat.succ_pos _)]
   have hok := deliverW_ok h 0
   obtain ⟨y, hy, ey, e⟩ := deliver_cons h
   have hns := (mayB_iff.1 h).1
   have hm := queueB_msg (mayB_iff.1 h).2.1 (List.mem_cons_self ..)
   have hmN : ∀ z ∈ namedM1 m, z ∈ ns.map nid := fun z hz => isNode_map.1 ((mayB_iff.1 h).2.2.2 m (List.mem_cons_self ..) z hz)
   have hask : asks (m :: ms) = asks ms + if m.f0 = 2 then 1 else 0 := by
    unfold asks
    rw [List.countP_cons]
    simp
   have hne : ∀ {i : Nat} {x : S40}, ns[i]? = some x → m.f2 = nid x → i = placeN ns m.f2 ∧ x = y := fun {i x} hx hq => by
    have hi := node_idx hns hx hy (hq.symm.trans ey.symm)
    refine ⟨hi, ?_⟩
    rw [hi] at hx
    exact Option.some.inj (hx.symm.trans hy)
   simp only [List.length_cons] at hn
   by_cases hu : y.f0 = true
   ·rw [if_pos hu] at e
    rw [e] at hok ⊢
    have hlen : (handM y m).length ≤ if m.f0 = 2 then 1 else 0 := by
     unfold handM
     split <;> exact Nat.le_refl _
    obtain ⟨d1, d2, d3⟩ := deliver_fold n hok (by
     simp only
     rw [asks_hand, List.length_append]
     rw [hask] at hn
     split at hlen <;> simp_all <;> omega)
    obtain ⟨q1, q2, q3, q4⟩ := handN_ok (h.node hy).1 hu hm ey.symm
    have hmap : (ns.set (placeN ns m.f2) (handN y m)).map nid = ns.map nid := set_map hy q2
    refine ⟨d1, d2.trans hmap, fun i x hx => ?_⟩
    simp only at hx d3 hmap
    simp only [hmap] at d3
    have hmem : ∀ {o : S126} {p : Prop}, (o ∈ ms ++ handM y m ∨ (o.f0 = 3 ∧ 0 < asks (ms ++ handM y m))) → (o ∈ m :: ms ∨ (o.f0 = 3 ∧ 0 < asks (m :: ms))) := fun {o p} ho => by
     rcases ho with ho | ⟨h1, h2⟩
     ·rcases List.mem_append.1 ho with ho | ho
      ·exact .inl (List.mem_cons_of_mem _ ho)
      ·obtain ⟨k1, k2⟩ := handM_kind ho
       exact .inr ⟨k1, asks_pos.2 ⟨m, List.mem_cons_self .., k2⟩⟩
     ·rw [asks_hand] at h2
      exact .inr ⟨h1, by rw [hask]; omega⟩
    by_cases hi : i = placeN ns m.f2
    ·subst hi
     obtain rfl : x = y := Option.some.inj (hx.symm.trans hy)
     have hlt := (List.getElem?_eq_some_iff.1 hx).1
     obtain ⟨_, f2⟩ := d3 (placeN ns m.f2) (handN x m) (by rw [List.getElem?_set]; simp [hlt])
     obtain ⟨L, l1, l2, l3⟩ := f2 q3
     refine ⟨fun hf => absurd hf (by simp [hu]), fun _ => ⟨m :: L, l1, fun o ho => ?_, fun o ho eo => ?_⟩⟩
     ·rcases List.mem_cons.1 ho with rfl | ho
      ·exact ⟨hm, ey.symm, hmN, .inl (List.mem_cons_self ..)⟩
      ·obtain ⟨a1, a2, a3, a4⟩ := l2 o ho
       exact ⟨a1, a2.trans q2, a3, hmem (p := True) a4⟩
     ·rcases List.mem_cons.1 ho with rfl | ho
      ·exact List.mem_cons_self ..
      ·exact List.mem_cons_of_mem _ (l3 o (List.mem_append_left _ ho) (eo.trans q2.symm))
    ·obtain ⟨f1, f2⟩ := d3 i x (by rw [List.getElem?_set]; rw [if_neg fun e => hi e.symm]; exact hx)
     refine ⟨f1, fun hxu => ?_⟩
     obtain ⟨L, l1, l2, l3⟩ := f2 hxu
     refine ⟨L, l1, fun o ho => ?_, fun o ho eo => ?_⟩
     ·obtain ⟨a1, a2, a3, a4⟩ := l2 o ho
      exact ⟨a1, a2, a3, hmem (p := True) a4⟩
     ·rcases List.mem_cons.1 ho with rfl | ho
      ·exact absurd (hne hx eo).1 hi
      ·exact l3 o (List.mem_append_left _ ho) eo
   ·rw [if_neg hu] at e
    rw [e] at hok ⊢
    obtain ⟨d1, d2, d3⟩ := deliver_fold n hok (by simp only; rw [hask] at hn; omega)
    refine ⟨d1, d2, fun i x hx => ?_⟩
    obtain ⟨f1, f2⟩ := d3 i x hx
    refine ⟨f1, fun hxu => ?_⟩
    obtain ⟨L, l1, l2, l3⟩ := f2 hxu
    refine ⟨L, l1, fun o ho => ?_, fun o ho eo => ?_⟩
    ·obtain ⟨a1, a2, a3, a4⟩ := l2 o ho
     refine ⟨a1, a2, a3, ?_⟩
     rcases a4 with a4 | ⟨b1, b2⟩
     ·exact .inl (List.mem_cons_of_mem _ a4)
     ·exact .inr ⟨b1, by rw [hask]; simp only at b2; omega⟩
    ·rcases List.mem_cons.1 ho with rfl | ho
     ·obtain ⟨_, rfl⟩ := hne hx eo
      exact absurd hxu hu
     ·exact l3 o ho eo
theorem deliver_heard (n : Nat) {s : WS} (h : OkW s) (hn : s.2.length + asks s.2 ≤ n) {i : Nat} {x : S40} (hx : s.1[i]? = some x) (hu : x.f0 = true) :
 ∃ (L : List S126) (x' : S40), (deliverAll n s).1[i]? = some x' ∧ Heard (fun y => ∃ m ∈ s.2, m.f0 = 0 ∧ m.f1 = y) L x x' ∧ x' = L.foldl handN x ∧ (∀ m ∈ L, m.f2 = nid x ∧ (m ∈ s.2 ∨ (m.f0 = 3 ∧ 0 < asks s.2))) ∧ ∀ m ∈ s.2, m.f2 = nid x → m ∈ L := by
 obtain ⟨_, _, d3⟩ := deliver_fold n h hn
 obtain ⟨L, l1, l2, l3⟩ := (d3 i x hx).2 hu
 obtain ⟨h1, h2, h3⟩ := h.node hx
 refine ⟨L, _, l1, heard_fold (N := s.1.map nid) (by rw [List.length_map]; exact (nodesB_iff.1 (mayB_iff.1 h).1).2.1) h1 hu (fun y hy => isNode_map.1 (h3 y hy)) (fun m hm => ⟨(l2 m hm).1, (l2 m hm).2.1, (l2 m hm).2.2.1⟩) (fun m hm k => ?_), rfl, fun m hm => ⟨(l2 m hm).2.1, (l2 m hm).2.2.2⟩, l3⟩
 rcases (l2 m hm).2.2.2 with h4 | ⟨h4, _⟩
 ·exact ⟨m, h4, k, rfl⟩
 ·omega
def tkN (x : S40) : S40 := if x.f0 = true then stepN x else x
def tkM (x : S40) : List S126 := if x.f0 = true then stepM x else []
theorem tkN_id (x : S40) : nid (tkN x) = nid x := by unfold tkN; split <;> rfl
theorem tkM_len {x : S40} (h : nodeB x = true) : (tkM x).length ≤ 48 := by
 unfold tkM
 split
 ·exact (stepM_ok h).1
 ·exact Nat.zero_le _
theorem flat_msgs {f : S40 → List S126} {b : Nat} : ∀ {l : List S40}, (∀ x ∈ l, (f x).length ≤ b) → (l.flatMap f).length ≤ b * l.length
 | [], _ => Nat.zero_le _
 | x :: l, h => by
   have h1 := h x (List.mem_cons_self ..)
   have h2 := flat_msgs (l := l) fun y hy => h y (List.mem_cons_of_mem _ hy)
   rw [List.flatMap_cons, List.length_append, List.length_cons, Nat.mul_succ]
   omega
theorem tickTo_eq {ns : List S40} (h : OkW (ns, [])) : ∀ i, i ≤ ns.length → (∀ j : Nat, (tickTo i (ns, [])).1[j]? = if j < i then ns[j]?.map tkN else ns[j]?) ∧ (tickTo i (ns, [])).2 = (ns.take i).flatMap tkM
 | 0, _ => ⟨fun j => by simp [tickTo], by simp [tickTo]⟩
 | i + 1, hi => by
   obtain ⟨i1, i2⟩ := tickTo_eq h i (by omega)
   have hok := tickTo_ok h i
   have hb := (nodesB_iff.1 (mayB_iff.1 h).1)
   have hx : (tickTo i (ns, [])).1[i]? = some ns[i] := by
    rw [i1, if_neg (Nat.lt_irrefl i)]
    exact List.getElem?_eq_getElem (by omega)
   have hlen : (tickTo i (ns, [])).1.length = ns.length := tickTo_len _ _
   have hg : (tickTo i (ns, [])).1.getD i z40 = ns[i] := by
    rw [List.getD_eq_getElem?_getD, hx]
    rfl
   have hp : placeN (tickTo i (ns, [])).1 (nid ns[i]) = i := by
    obtain ⟨y, hy, e⟩ := place_some hok (isNode_iff.2 ⟨_, List.mem_of_getElem? hx, rfl⟩)
    exact node_idx (mayB_iff.1 hok).1 hy hx e
   have h48 : ∀ x ∈ ns.take (i + 1), (tkM x).length ≤ 48 := fun x hx => tkM_len (hb.2.2.1 x (List.mem_of_mem_take hx))
   have hq := flat_msgs h48
   rw [List.length_take] at hq
   have h8 : ns.length ≤ 8 := hb.2.1
   have hsplit : (ns.take (i + 1)).flatMap tkM = (ns.take i).flatMap tkM ++ tkM ns[i] := by
    rw [List.take_succ_eq_append_getElem (by omega), List.flatMap_append]
    simp
   show (∀ j, (tickW (tickTo i (ns, [])) (nid ((tickTo i (ns, [])).1.getD i z40))).1[j]? = _) ∧ (tickW (tickTo i (ns, [])) (nid ((tickTo i (ns, [])).1.getD i z40))).2 = _
   rw [hg]
   unfold tickW
   rw [hp, hx]
   simp only
   by_cases hu : ns[i].f0 = true
   ·rw [if_pos hu]
    refine ⟨fun j => ?_, ?_⟩
    ·simp only [List.getElem?_set]
     by_cases hj : i = j
     ·subst hj
      rw [if_pos rfl, hlen, if_pos (by omega), if_pos (Nat.lt_succ_self i), List.getElem?_eq_getElem (by omega)]
      show some (stepN ns[i]) = some (tkN ns[i])
      unfold tkN
      rw [if_pos hu]
     ·rw [if_neg hj, i1]
      by_cases h2 : j < i
      ·rw [if_pos h2, if_pos (by omega)]
      ·rw [if_neg h2, if_neg (by omega)]
    ·have htk : tkM ns[i] = stepM ns[i] := by unfold tkM; rw [if_pos hu]
     simp only
     rw [hsplit, i2, ← htk]
     refine sendQ_all ?_
     rw [hsplit, List.length_append] at hq
     have hmin : min (i + 1) ns.length ≤ 8 := by omega
     have := Nat.mul_le_mul_left 48 hmin
     omega
   ·rw [if_neg hu]
    refine ⟨fun j => ?_, ?_⟩
    ·rw [i1]
     by_cases hj : j = i
     ·subst hj
      rw [if_neg (Nat.lt_irrefl j), if_pos (Nat.lt_succ_self j), List.getElem?_eq_getElem (by omega)]
      show some ns[j] = some (tkN ns[j])
      unfold tkN
      rw [if_neg hu]
     ·by_cases h2 : j < i
      ·rw [if_pos h2, if_pos (by omega)]
      ·rw [if_neg h2, if_neg (by omega)]
    ·rw [hsplit, i2]
     have : tkM ns[i] = [] := by unfold tkM; rw [if_neg hu]
     rw [this, List.append_nil]
theorem tickAll_eq {ns : List S40} (h : OkW (ns, [])) : (∀ j : Nat, (tickAll (ns, [])).1[j]? = ns[j]?.map tkN) ∧ (tickAll (ns, [])).2 = ns.flatMap tkM := by
 obtain ⟨h1, h2⟩ := tickTo_eq h ns.length (Nat.le_refl _)
 refine ⟨fun j => ?_, ?_⟩
 ·unfold tickAll
  rw [h1]
  by_cases hj : j < ns.length
  ·rw [if_pos hj]
  ·rw [if_neg hj, List.getElem?_eq_none (by omega)]
   rfl
 ·unfold tickAll
  rw [h2]
  simp
theorem stepM_kind {x : S40} {m : S126} (h : m ∈ stepM x) : m.f0 = 0 ∨ m.f0 = 1 := by
 unfold stepM stepH shareL at h
 rcases List.mem_append.1 h with h | h
 ·obtain ⟨d, _, rfl⟩ := List.mem_map.1 h
  exact .inl rfl
 ·obtain ⟨i, _, e⟩ := List.mem_filterMap.1 h
  unfold shareM at e
  split at e
  ·cases e
  ·rw [← Option.some.inj e]
   exact .inr rfl
theorem tkM_mem {ns : List S40} {m : S126} : m ∈ ns.flatMap tkM ↔ ∃ z ∈ ns, z.f0 = true ∧ m ∈ stepM z := by
 rw [List.mem_flatMap]
 constructor
 ·rintro ⟨z, hz, h⟩
  unfold tkM at h
  split at h
  ·rename_i hu
   exact ⟨z, hz, hu, h⟩
  ·cases h
 ·rintro ⟨z, hz, hu, h⟩
  exact ⟨z, hz, by unfold tkM; rw [if_pos hu]; exact h⟩
theorem round_law {ns : List S40} (h : OkW (ns, [])) : (roundW (ns, [])).2 = [] ∧ (roundW (ns, [])).1.map nid = ns.map nid ∧ ∀ (i : Nat) (x : S40), ns[i]? = some x → (x.f0 = false → (roundW (ns, [])).1[i]? = some x) ∧ (x.f0 = true → ∃ (L : List S126) (x' : S40), (roundW (ns, [])).1[i]? = some x' ∧ Heard (fun y => ∃ z ∈ ns, z.f0 = true ∧ nid z = y) L (stepN x) x' ∧ (∀ m ∈ L, ∃ z ∈ ns, z.f0 = true ∧ m ∈ stepM z ∧ m.f2 = nid x) ∧ ∀ z ∈ ns, z.f0 = true → ∀ m ∈ stepM z, m.f2 = nid x → m ∈ L) := by
 obtain ⟨t1, t2⟩ := tickAll_eq h
 have hr : roundW (ns, []) = deliverAll 1024 (tickAll (ns, [])) := by unfold roundW; rw [deliverAll_nil 1024 (s := (ns, [])) rfl]
 have hok : OkW (tickAll (ns, [])) := tickTo_ok h _
 have hb := nodesB_iff.1 (mayB_iff.1 h).1
 have hno : asks (tickAll (ns, [])).2 = 0 := by
  rw [← Nat.le_zero, ← Nat.not_lt, asks_pos]
  rintro ⟨m, hm, k⟩
  rw [t2, tkM_mem] at hm
  obtain ⟨z, _, _, hm⟩ := hm
  rcases stepM_kind hm with k2 | k2 <;> omega
 have h512 := (queueB_iff.1 (mayB_iff.1 hok).2.1).1
 have hn : (tickAll (ns, [])).2.length + asks (tickAll (ns, [])).2 ≤ 1024 := by omega
 have hmap : (tickAll (ns, [])).1.map nid = ns.map nid := by
  apply List.ext_getElem?
  intro j
  rw [List.getElem?_map, t1, List.getElem?_map]
  cases ns[j]? with
  | none => rfl
  | some x => exact congrArg some (tkN_id x)
 rw [hr]
 obtain ⟨d1, d2, d3⟩ := deliver_fold 1024 hok hn
 refine ⟨d1, d2.trans hmap, fun i x hx => ?_⟩
 have hti : (tickAll (ns, [])).1[i]? = some (tkN x) := by rw [t1, hx]; rfl
 refine ⟨fun hu => ?_, fun hu => ?_⟩
 ·have e : tkN x = x := by unfold tkN; rw [if_neg (by simp [hu])]
  rw [e] at hti
  exact (d3 i x hti).1 hu
 ·have e : tkN x = stepN x := by unfold tkN; rw [if_pos hu]
  rw [e] at hti
  obtain ⟨L, x', l1, l2, _, l4, l5⟩ := deliver_heard 1024 hok hn hti hu
  have hH : ∀ y : Int, (∃ m ∈ (tickAll (ns, [])).2, m.f0 = 0 ∧ m.f1 = y) → ∃ z ∈ ns, z.f0 = true ∧ nid z = y := by
   rintro y ⟨m, hm, _, rfl⟩
   rw [t2, tkM_mem] at hm
   obtain ⟨z, hz, hzu, hm⟩ := hm
   exact ⟨z, hz, hzu, ((stepM_ok (hb.2.2.1 z hz)).2 m hm).2.1.symm⟩
  refine ⟨L, x', l1, ⟨l2.ok, l2.id, l2.up, ⟨l2.grow.stay, fun p hp => ?_, l2.grow.know, l2.grow.pass, fun y hy hn => l2.grow.keep y hy fun hc => hn (hH y hc)⟩, l2.heard, l2.mono, l2.orig, l2.has, l2.log⟩, fun m hm => ?_, fun z hz hzu m hm em => l5 m (by rw [t2]; exact tkM_mem.2 ⟨z, hz, hzu, hm⟩) em⟩
  ·rcases l2.grow.back p hp with h1 | ⟨h1, h2 | h2⟩
   ·exact .inl h1
   ·exact .inr ⟨h1, .inl (hH _ h2)⟩
   ·exact .inr ⟨h1, .inr h2⟩
  ·obtain ⟨a1, a2⟩ := l4 m hm
   rcases a2 with a2 | ⟨_, a2⟩
   ·rw [t2, tkM_mem] at a2
    obtain ⟨z, hz, hzu, hm⟩ := a2
    exact ⟨z, hz, hzu, hm, a1⟩
   ·omega
theorem round_first {s : WS} (h : OkW s) : (deliverAll 1024 s).2 = [] ∧ OkW (deliverAll 1024 s) ∧ roundW s = roundW (deliverAll 1024 s) := by
 have h512 := (queueB_iff.1 (mayB_iff.1 h).2.1).1
 have := asks_le s.2
 obtain ⟨d1, _, _⟩ := deliver_fold 1024 h (by omega)
 refine ⟨d1, deliverAll_ok _ h, ?_⟩
 unfold roundW
 rw [deliverAll_nil 1024 (s := deliverAll 1024 s) (by rw [d1]; rfl)]
section
def Kn (ns : List S40) (a b : Int) : Prop := ∃ x ∈ ns, x.f0 = true ∧ nid x = a ∧ b ∈ namedN1 x
def Fh (ns : List S40) (a b : Int) : Prop := ∃ x ∈ ns, x.f0 = true ∧ nid x = a ∧ (⟨b, 0⟩ : S98) ∈ x.f1.f1
def Ac (ns : List S40) (a b : Int) : Prop := ∃ x ∈ ns, x.f0 = true ∧ nid x = a ∧ ∃ p ∈ x.f1.f1, p.f0 = b ∧ p.f1 ≤ 1
def Up (ns : List S40) (a : Int) : Prop := ∃ x ∈ ns, x.f0 = true ∧ nid x = a
theorem Fh.kn {ns : List S40} {a b : Int} : Fh ns a b → Kn ns a b
 | ⟨x, h1, h2, h3, h4⟩ => ⟨x, h1, h2, h3, List.mem_append_left _ (mem_idsOf.2 ⟨_, h4, rfl⟩)⟩
theorem Fh.ac {ns : List S40} {a b : Int} : Fh ns a b → Ac ns a b
 | ⟨x, h1, h2, h3, h4⟩ => ⟨x, h1, h2, h3, _, h4, rfl, by show (0 : Int) ≤ 1; decide⟩
theorem Ac.kn {ns : List S40} {a b : Int} : Ac ns a b → Kn ns a b
 | ⟨x, h1, h2, h3, p, h4, h5, _⟩ => ⟨x, h1, h2, h3, List.mem_append_left _ (mem_idsOf.2 ⟨p, h4, h5⟩)⟩
abbrev Calm (ns : List S40) : Prop := OkW (ns, [])
def nextN (ns : List S40) : List S40 := (roundW (ns, [])).1
theorem next_eq {ns : List S40} (h : Calm ns) : roundW (ns, []) = (nextN ns, []) := by
 exact Prod.ext rfl (round_law h).1
theorem next_calm {ns : List S40} (h : Calm ns) : Calm (nextN ns) := by
 have := roundW_ok h
 rwa [next_eq h] at this
theorem next_of {ns : List S40} (h : Calm ns) {x : S40} (hx : x ∈ ns) (hu : x.f0 = true) : ∃ (L : List S126) (x' : S40), x' ∈ nextN ns ∧ Heard (fun y => ∃ z ∈ ns, z.f0 = true ∧ nid z = y) L (stepN x) x' ∧ (∀ m ∈ L, ∃ z ∈ ns, z.f0 = true ∧ m ∈ stepM z ∧ m.f2 = nid x) ∧ ∀ z ∈ ns, z.f0 = true → ∀ m ∈ stepM z, m.f2 = nid x → m ∈ L := by
 obtain ⟨i, hi, rfl⟩ := List.getElem_of_mem hx
 obtain ⟨_, _, h3⟩ := round_law h
 obtain ⟨L, x', h4, h5⟩ := (h3 i _ (List.getElem?_eq_getElem hi)).2 hu
 exact ⟨L, x', List.mem_of_getElem? h4, h5⟩
theorem next_down {ns : List S40} (h : Calm ns) {x : S40} (hx : x ∈ ns) (hu : x.f0 = false) : x ∈ nextN ns := by
 obtain ⟨i, hi, rfl⟩ := List.getElem_of_mem hx
 obtain ⟨_, _, h3⟩ := round_law h
 exact List.mem_of_getElem? ((h3 i _ (List.getElem?_eq_getElem hi)).1 hu)
theorem next_map {ns : List S40} (h : Calm ns) : (nextN ns).map nid = ns.map nid := (round_law h).2.1
theorem next_from {ns : List S40} (h : Calm ns) {x' : S40} (hx : x' ∈ nextN ns) (hu : x'.f0 = true) : ∃ x ∈ ns, x.f0 = true ∧ nid x = nid x' ∧ ∃ L : List S126, Heard (fun y => ∃ z ∈ ns, z.f0 = true ∧ nid z = y) L (stepN x) x' ∧ (∀ m ∈ L, ∃ z ∈ ns, z.f0 = true ∧ m ∈ stepM z ∧ m.f2 = nid x) ∧ ∀ z ∈ ns, z.f0 = true → ∀ m ∈ stepM z, m.f2 = nid x → m ∈ L := by
 have hm : nid x' ∈ ns.map nid := next_map h ▸ List.mem_map.2 ⟨x', hx, rfl⟩
 obtain ⟨x, h1, e⟩ := List.mem_map.1 hm
 have hn := (mayB_iff.1 (next_calm h)).1
 cases hxu : x.f0
 ·have := node_eq hn (next_down h h1 hxu) hx e
  rw [this, hu] at hxu
  cases hxu
 ·obtain ⟨L, y, h2, h3, h4⟩ := next_of h h1 hxu
  have := node_eq hn h2 hx (h3.id.trans e)
  subst this
  exact ⟨x, h1, hxu, e, L, h3, h4⟩
theorem up_next {ns : List S40} (h : Calm ns) {a : Int} : Up (nextN ns) a ↔ Up ns a := by
 constructor
 ·rintro ⟨x', h1, h2, rfl⟩
  obtain ⟨x, h3, h4, h5, _⟩ := next_from h h1 h2
  exact ⟨x, h3, h4, h5⟩
 ·rintro ⟨x, h1, h2, rfl⟩
  obtain ⟨L, x', h3, h4, _⟩ := next_of h h1 h2
  exact ⟨x', h3, h4.up, h4.id⟩
theorem view_of {ns : List S40} (h : Calm ns) {x : S40} (hx : x ∈ ns) : VOk x.f1.f0 x.f1.f1 x.f1.f2 := (nodeB_iff.1 ((nodesB_iff.1 (mayB_iff.1 h).1).2.2.1 x hx)).2.1
theorem step_named {ns : List S40} (h : Calm ns) {x : S40} (hx : x ∈ ns) {y : Int} : y ∈ namedN1 (stepN x) ↔ y ∈ namedN1 x := stepV_named (view_of h hx)
theorem greet_mem {ns : List S40} (h : Calm ns) {x : S40} (hx : x ∈ ns) {y : Int} (hy : y ∈ namedN1 x) : helloM (nid x) (idsOf (aged x.f1.f1)) y ∈ stepM x := by
 unfold stepM stepH
 exact List.mem_append_left _ (List.mem_map.2 ⟨y, (step_named h hx).2 hy, rfl⟩)
theorem r1 {ns : List S40} (h : Calm ns) {a b : Int} (k : Kn ns a b) : Kn (nextN ns) a b := by
 obtain ⟨x, h1, h2, rfl, h4⟩ := k
 obtain ⟨L, x', h5, h6, _⟩ := next_of h h1 h2
 exact ⟨x', h5, h6.up, h6.id, h6.grow.known ((step_named h h1).2 h4)⟩
theorem r2 {ns : List S40} (h : Calm ns) {a b : Int} (k : Kn ns a b) (u : Up ns b) : Fh (nextN ns) b a := by
 obtain ⟨x, h1, h2, rfl, h4⟩ := k
 obtain ⟨z, u1, u2, rfl⟩ := u
 obtain ⟨L, z', h5, h6, _, h8⟩ := next_of h u1 u2
 have hm := h8 x h1 h2 _ (greet_mem h h1 h4) rfl
 exact ⟨z', h5, h6.up, h6.id, (h6.heard _ hm rfl).1⟩
theorem r3 {ns : List S40} (h : Calm ns) {a b c : Int} (k : Kn ns a b) (u : Up ns b) (g : Ac ns a c) (hn : c ≠ b) : Kn (nextN ns) b c := by
 obtain ⟨x, h1, h2, rfl, h4⟩ := k
 obtain ⟨z, u1, u2, rfl⟩ := u
 obtain ⟨x2, g1, g2, g3, p, g4, g5, g6⟩ := g
 obtain rfl := node_eq (mayB_iff.1 h).1 g1 h1 g3
 obtain ⟨L, z', h5, h6, _, h8⟩ := next_of h u1 u2
 have hm := h8 x2 h1 h2 _ (greet_mem h h1 h4) rfl
 have hc : c ∈ idsOf (aged x2.f1.f1) := mem_idsOf.2 ⟨_, mem_aged.2 ⟨p, g4, by omega, rfl⟩, g5⟩
 exact ⟨z', h5, h6.up, h6.id, (h6.heard _ hm rfl).2 c hc hn⟩
theorem r4 {ns : List S40} (h : Calm ns) {a b : Int} (k : Kn (nextN ns) a b) (n : ¬ Kn ns a b) : Fh (nextN ns) a b := by
 obtain ⟨x', h1, h2, rfl, h4⟩ := k
 obtain ⟨x, h5, h6, h7, L, h8, _⟩ := next_from h h1 h2
 have hb : b ∉ namedN1 (stepN x) := fun hc => n ⟨x, h5, h6, h7, (step_named h h5).1 hc⟩
 refine ⟨x', h1, h2, rfl, ?_⟩
 rcases List.mem_append.1 h4 with h4 | h4
 ·obtain ⟨p, hp, rfl⟩ := mem_idsOf.1 h4
  rcases h8.grow.back p hp with h9 | ⟨h9, _⟩
  ·exact absurd (List.mem_append_left _ (mem_idsOf.2 ⟨p, h9, rfl⟩)) hb
  ·have : p = ⟨p.f0, 0⟩ := by rw [← h9]
   rwa [this] at hp
 ·exact absurd (List.mem_append_right _ (h8.grow.pass b h4)) hb
theorem r5 {ns : List S40} (h : Calm ns) {a b : Int} (k : Fh ns a b) : Ac (nextN ns) a b := by
 obtain ⟨x, h1, h2, rfl, h4⟩ := k
 obtain ⟨L, x', h5, h6, _⟩ := next_of h h1 h2
 have hm : (⟨b, 1⟩ : S98) ∈ (stepN x).f1.f1 := mem_aged.2 ⟨_, h4, by show (0 : Int) ≠ 2; decide, rfl⟩
 rcases h6.grow.stay _ hm with h7 | h7
 ·exact ⟨x', h5, h6.up, h6.id, _, h7, rfl, Int.le_refl _⟩
 ·exact ⟨x', h5, h6.up, h6.id, _, h7, rfl, by show (0 : Int) ≤ 1; decide⟩
section
variable {S : Int → Int → Prop}
def Reach (S : Int → Int → Prop) : Nat → Int → Int → Prop
 | 0, a, b => a = b
 | d + 1, a, b => ∃ c, Reach S d a c ∧ (c = b ∨ S c b)
theorem reach_mono {d : Nat} {a b : Int} (h : Reach S d a b) : Reach S (d + 1) a b := ⟨b, h, .inl rfl⟩
theorem reach_split {e : Nat} : ∀ {d : Nat} {a b : Int}, Reach S (d + e) a b → ∃ c, Reach S d a c ∧ Reach S e c b := by
 induction e with
 | zero => exact fun h => ⟨_, h, rfl⟩
 | succ e ih =>
   intro d a b h
   obtain ⟨c, h1, h2⟩ := (h : Reach S (d + e + 1) a b)
   obtain ⟨q, q1, q2⟩ := ih h1
   exact ⟨q, q1, c, q2, h2⟩
inductive Conn (S : Int → Int → Prop) : Int → Int → Prop
 | refl (a : Int) : Conn S a a
 | step {a b c : Int} : Conn S a b → (S b c ∨ S c b) → Conn S a c
theorem Conn.trans {a b c : Int} (h : Conn S a b) (k : Conn S b c) : Conn S a c := by
 induction k with
 | refl => exact h
 | step _ s ih => exact ih.step s
theorem Conn.symm {a b : Int} (h : Conn S a b) : Conn S b a := by
 induction h with
 | refl => exact .refl _
 | step _ s ih => exact (Conn.step (.refl _) s.symm).trans ih
theorem reach_eight {N : List Int} (hl : N.length ≤ 8) {a : Int} (ha : a ∈ N) (hN : ∀ b c, b ∈ N → S b c → c ∈ N) {b : Int} (hsym : ∀ b c, S b c → S c b) (h : Conn S a b) : Reach S 8 a b := by
 have hin : ∀ d c, Reach S d a c → c ∈ N := by
  intro d
  induction d with
  | zero => rintro c rfl; exact ha
  | succ d ih =>
    rintro c ⟨q, q1, q2 | q2⟩
    ·exact q2 ▸ ih q q1
    ·exact hN q c (ih q q1) q2
 have key : ∀ d, (∀ c, Reach S (d + 1) a c → Reach S d a c) ∨ ∃ l : List Int, l.Nodup ∧ l.length = d + 1 ∧ ∀ c ∈ l, Reach S d a c := by
  intro d
  induction d with
  | zero => exact .inr ⟨[a], by simp, rfl, fun c hc => (List.mem_singleton.1 hc).symm⟩
  | succ d ih =>
    have hcl : (∀ c, Reach S (d + 1) a c → Reach S d a c) → ∀ c, Reach S (d + 2) a c → Reach S (d + 1) a c := fun hc c h => by
     obtain ⟨q, q1, q2⟩ := h
     exact ⟨q, hc q q1, q2⟩
    rcases ih with ih | ⟨l, l1, l2, l3⟩
    ·exact .inl (hcl ih)
    ·by_cases hc : ∀ c, Reach S (d + 1) a c → Reach S d a c
     ·exact .inl (hcl hc)
     ·obtain ⟨c, hc⟩ := Classical.not_forall.1 hc
      obtain ⟨c1, c2⟩ := Classical.not_imp.1 hc
      refine .inr ⟨c :: l, List.nodup_cons.2 ⟨fun hm => c2 (l3 c hm), l1⟩, by rw [List.length_cons, l2], fun q hq => ?_⟩
      rcases List.mem_cons.1 hq with rfl | hq
      ·exact c1
      ·exact reach_mono (l3 q hq)
 have h8 : ∀ c, Reach S 9 a c → Reach S 8 a c := by
  rcases key 8 with h1 | ⟨l, l1, l2, l3⟩
  ·exact h1
  ·have := nodup_le l1 fun c hc => hin 8 c (l3 c hc)
   omega
 induction h with
 | refl => 
   have : ∀ d, Reach S d a a := fun d => by
    induction d with
    | zero => rfl
    | succ d ih => exact reach_mono ih
   exact this 8
 | step _ s ih =>
   rcases s with s | s
   ·exact h8 _ ⟨_, ih, .inr s⟩
   ·exact h8 _ ⟨_, ih, .inr (hsym _ _ s)⟩
end
def rounds : Nat → List S40 → List S40
 | 0, ns => ns
 | t + 1, ns => nextN (rounds t ns)
theorem rounds_calm {ns : List S40} (h : Calm ns) : ∀ t, Calm (rounds t ns)
 | 0 => h
 | t + 1 => next_calm (rounds_calm h t)
theorem rounds_up {ns : List S40} (h : Calm ns) {a : Int} : ∀ t, Up (rounds t ns) a ↔ Up ns a
 | 0 => Iff.rfl
 | t + 1 => (up_next (rounds_calm h t)).trans (rounds_up h t)
theorem rounds_map {ns : List S40} (h : Calm ns) : ∀ t, (rounds t ns).map nid = ns.map nid
 | 0 => rfl
 | t + 1 => (next_map (rounds_calm h t)).trans (rounds_map h t)
def Full (ns : List S40) : Prop := ∀ a b, Up ns a → Up ns b → a ≠ b → Kn ns a b
def Fresh (ns : List S40) : Prop := ∀ a b, Up ns a → Up ns b → a ≠ b → Fh ns a b
theorem Fresh.full {ns : List S40} (h : Fresh ns) : Full ns := fun a b ha hb hn => (h a b ha hb hn).kn
theorem full_next {ns : List S40} (h : Calm ns) (k : Full ns) : Fresh (nextN ns) := fun a b ha hb hn => r2 h (k b a ((up_next h).1 hb) ((up_next h).1 ha) fun e => hn e.symm) ((up_next h).1 ha)
theorem fresh_rounds {ns : List S40} (h : Calm ns) (k : Fresh ns) : ∀ t, Fresh (rounds t ns)
 | 0 => k
 | t + 1 => full_next (rounds_calm h t) (fresh_rounds h k t).full
def AllUp (ns : List S40) : Prop := ∀ x ∈ ns, x.f0 = true
theorem up_iff {ns : List S40} (hA : AllUp ns) {a : Int} : Up ns a ↔ a ∈ ns.map nid := by
 rw [List.mem_map]
 exact ⟨fun ⟨x, h1, _, h3⟩ => ⟨x, h1, h3⟩, fun ⟨x, h1, h3⟩ => ⟨x, h1, hA x h1, h3⟩⟩
theorem allUp_next {ns : List S40} (h : Calm ns) (hA : AllUp ns) : AllUp (nextN ns) := by
 intro x' hx
 have hm : nid x' ∈ ns.map nid := next_map h ▸ List.mem_map.2 ⟨x', hx, rfl⟩
 obtain ⟨y, h1, h2, h3⟩ := (up_next h).2 ((up_iff hA).2 hm)
 rw [← node_eq (mayB_iff.1 (next_calm h)).1 h1 hx h3]
 exact h2
theorem allUp_rounds {ns : List S40} (h : Calm ns) (hA : AllUp ns) : ∀ t, AllUp (rounds t ns)
 | 0 => hA
 | t + 1 => allUp_next (rounds_calm h t) (allUp_rounds h hA t)
theorem kn_node {ns : List S40} (h : Calm ns) {a b : Int} (k : Kn ns a b) : b ∈ ns.map nid := by
 obtain ⟨x, h1, _, _, h4⟩ := k
 exact isNode_map.1 ((mayB_iff.1 h).2.2.1 x h1 b h4)
theorem rounds_r1 {ns : List S40} (h : Calm ns) {a b : Int} (k : Kn ns a b) : ∀ t, Kn (rounds t ns) a b
 | 0 => k
 | t + 1 => r1 (rounds_calm h t) (rounds_r1 h k t)
theorem kn_ac {ns : List S40} (h : Calm ns) (hA : AllUp ns) (t : Nat) {a b : Int} (k : Kn (rounds (t + 2) ns) a b) : Ac (rounds (t + 2) ns) a b := by
 have c0 := rounds_calm h t
 have c1 := rounds_calm h (t + 1)
 have ua : Up ns a := by
  obtain ⟨x, x1, x2, x3, _⟩ := k
  exact (rounds_up h (t + 2)).1 ⟨x, x1, x2, x3⟩
 by_cases k1 : Kn (rounds (t + 1) ns) a b
 ·by_cases k0 : Kn (rounds t ns) a b
  ·have ub : Up (rounds t ns) b := (up_iff (allUp_rounds h hA t)).2 (kn_node c0 k0)
   exact (r2 c1 (r2 c0 k0 ub).kn ((rounds_up h (t + 1)).2 ua)).ac
  ·exact r5 c1 (r4 c0 k1 k0)
 ·exact (r4 c1 k k1).ac
section
variable {S : Int → Int → Prop}
theorem reach_cons {a c : Int} (hs : a = c ∨ S a c) : ∀ {d : Nat} {b : Int}, Reach S d c b → Reach S (d + 1) a b
 | 0, b, h => ⟨a, rfl, h ▸ hs⟩
 | d + 1, b, h => by
   obtain ⟨q, q1, q2⟩ := h
   exact ⟨q, reach_cons hs q1, q2⟩
theorem reach_symm (hsym : ∀ b c, S b c → S c b) : ∀ {d : Nat} {a b : Int}, Reach S d a b → Reach S d b a
 | 0, a, b, h => Eq.symm h
 | d + 1, a, b, h => by
   obtain ⟨q, q1, q2⟩ := h
   refine reach_cons ?_ (reach_symm hsym q1)
   rcases q2 with q2 | q2
   ·exact .inl q2.symm
   ·exact .inr (hsym _ _ q2)
theorem reach_in {N : List Int} (hN : ∀ b c, b ∈ N → S b c → c ∈ N) : ∀ {d : Nat} {a b : Int}, a ∈ N → Reach S d a b → b ∈ N
 | 0, a, b, ha, h => (show a = b from h) ▸ ha
 | d + 1, a, b, ha, h => by
   obtain ⟨q, q1, q2⟩ := h
   have hq := reach_in hN ha q1
   rcases q2 with q2 | q2
   ·exact q2 ▸ hq
   ·exact hN _ _ hq q2
end
theorem six_rounds {ns : List S40} (h : Calm ns) (hA : AllUp ns) (hc : ∀ a b, a ∈ ns.map nid → b ∈ ns.map nid → Conn (Kn ns) a b) : Full (rounds 5 ns) ∧ Fresh (rounds 6 ns) := by
 have hsym : ∀ b c, (Kn ns b c ∨ Kn ns c b) → (Kn ns c b ∨ Kn ns b c) := fun b c h => h.symm
 have hN : ∀ b c, b ∈ ns.map nid → (Kn ns b c ∨ Kn ns c b) → c ∈ ns.map nid := fun b c hb hs => by
  rcases hs with hs | hs
  ·exact kn_node h hs
  ·obtain ⟨x, x1, _, x3, _⟩ := hs
   exact List.mem_map.2 ⟨x, x1, x3⟩
 have up : ∀ {a : Int} (t : Nat), a ∈ ns.map nid → Up (rounds t ns) a := fun t ha => (rounds_up h t).2 ((up_iff hA).2 ha)
 have d2 : ∀ a b, a ∈ ns.map nid → Reach (fun a b => Kn ns a b ∨ Kn ns b a) 1 a b → a = b ∨ Kn (rounds 2 ns) a b := by
  rintro a b ha ⟨c, rfl, h1 | h1⟩
  ·exact .inl h1
  ·refine .inr ?_
   rcases h1 with h1 | h1
   ·exact rounds_r1 h h1 2
   ·exact r1 (rounds_calm h 1) (r2 h h1 ((up_iff hA).2 ha)).kn
 have dd : ∀ (t r : Nat), (∀ a b, a ∈ ns.map nid → Reach (fun a b => Kn ns a b ∨ Kn ns b a) r a b → a = b ∨ Kn (rounds (t + 2) ns) a b) → ∀ a b, a ∈ ns.map nid → Reach (fun a b => Kn ns a b ∨ Kn ns b a) (r + r) a b → a = b ∨ Kn (rounds (t + 3) ns) a b := by
  intro t r hd a b ha hr
  have cc := rounds_calm h (t + 2)
  obtain ⟨c, c1, c2⟩ := reach_split hr
  have hcm := reach_in hN ha c1
  have k2 := hd c b hcm c2
  have k1 := hd c a hcm (reach_symm hsym c1)
  by_cases e : a = b
  ·exact .inl e
  ·refine .inr ?_
   rcases k1 with rfl | k1
   ·rcases k2 with k2 | k2
    ·exact absurd k2 e
    ·exact r1 cc k2
   ·rcases k2 with rfl | k2
    ·rcases hd a c ha c1 with k3 | k3
     ·exact absurd k3 e
     ·exact r1 cc k3
    ·exact r3 cc k1 (up _ ha) (kn_ac h hA t k2) fun e2 => e e2.symm
 have d5 := dd 2 4 (dd 1 2 (dd 0 1 d2))
 have hfull : Full (rounds 5 ns) := by
  intro a b ua ub hn
  have ha := (up_iff hA).1 ((rounds_up h 5).1 ua)
  have hb := (up_iff hA).1 ((rounds_up h 5).1 ub)
  have hco := hc a b ha hb
  have hco2 : Conn (fun a b => Kn ns a b ∨ Kn ns b a) a b := by
   clear ha hb ub hn
   induction hco with
   | refl => exact .refl _
   | step _ s ih => exact ih.step (.inl s)
  have h8 := reach_eight (N := ns.map nid) (by rw [List.length_map]; exact (nodesB_iff.1 (mayB_iff.1 h).1).2.1) ha hN hsym hco2
  exact (d5 a b ha h8).resolve_left hn
 exact ⟨hfull, full_next (rounds_calm h 5) hfull⟩
end
end Go.Proofs.YtljipbmmgcccnaaGreat.T
end
