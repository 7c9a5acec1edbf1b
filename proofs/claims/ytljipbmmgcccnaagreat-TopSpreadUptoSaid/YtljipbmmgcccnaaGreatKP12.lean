/- Words and lemmas that the claim's proof names, part 12: what the program's functions answer, at the inputs that each theorem's premises name. Conditions: each theorem's own premises. -/
import Derived.Test.YtljipbmmgcccnaaGreatKP11
section
namespace Go.Proofs.YtljipbmmgcccnaaGreat.T
open Go.RowKit Go.Proofs.YtljipbmmgcccnaaGreatW.PrintWords Go.Proofs.YtljipbmmgcccnaaGreatW.PrintLast Go.Proofs.YtljipbmmgcccnaaGreatW.PrintMore
attribute [local go_sem] cell_tc frozen_tc max2_int min2_int
attribute [local go_sem ↓] Go.wp_at_zero Go.wp_at_succ
set_option linter.unusedVariables false
set_option linter.unusedSimpArgs false
set_option synthInstance.maxHeartbeats 400000
set_option synthInstance.maxSize 512
section
attribute [local go_sem] cell_tc2 frozen_row
set_option maxRecDepth 100000 in
set_option maxHeartbeats 8000000 in
theorem doerDeliver_ {g ga gr n c d k f ta ne ce b p : Nat} {a0 a1 a2 a5 a6 : Int} {B C E : Option Addr} {ns : List S40} {ps : List S126} {w : World} {S1 S2 : Nat → Prop} {mo : S126} [hg : Blk w g #[.slice (some ⟨gr, 0, none⟩) n c, .slice B 0 d, .slice C k f] 119] [ha : Blk w ga #[.int .i64 a0, .int .i64 a1, .int .i64 a2, .int .i64 (p : Nat), .slice E ne ce, .int .i64 a5, .int .i64 a6] ta] [h : Fr k40 40 w b S1 (some ⟨gr, 0, none⟩) n c ns] [q : Fr k126 126 w b S2 C k f ps] [av1 : Avoid g b S1] [av2 : Avoid g b S2] [av3 : Avoid gr b S2] [row : Row w gr] [ge1 : GeB b g] [ge2 : GeB b gr] [lb : LeB b w.heap.size] (hq : mayB ns ps = true) (hk0 : 0 < k) (hm : ps[p % k]? = some mo) (hnode : isNode ns mo.f2 = true) {x : S40} (hx1 : ns[placeN ns mo.f2]? = some x) (hx2 : x.f0 = true) (hx3 : nodesSz (ns.set (placeN ns mo.f2) (handN x mo))) (hx4 : mayB (ns.set (placeN ns mo.f2) (handN x mo)) (ps.eraseIdx (p % k)) = true) (hx5 : mayB (ns.set (placeN ns mo.f2) (handN x mo)) (handM x mo) = true) :
 Calls Tryz.prog 68 #[.pointer (some ⟨g, 0, none⟩), .pointer (some ⟨ga, 0, none⟩)] w fun e w' => e = .returned (.tuple #[]) ∧ DoerIs w' g b (ns.set (placeN ns mo.f2) (handN x mo)) (sendQ (ps.eraseIdx (p % k)) (handM x mo)) ∧ BbL b w w' := by
 have hlen := h.len
 have hlp := q.len
 have s1 : FrL k40 40 w b (Both w.heap.size g) (some ⟨gr, 0, none⟩) n c ns := frl_both
 have s2 : FrL k126 126 w b (Three w.heap.size g gr) C k f ps := frl_three
 have kne : NeB g gr := ⟨fun e => av1.out gr (Fr.ge_row h) (h.R.1 gr rfl) e.symm⟩
 have kne2 : NeB gr g := ⟨fun e => kne.out e.symm⟩
 have k1 : BlkL w g #[.slice (some ⟨gr, 0, none⟩) n c, .slice B 0 d, .slice C k f] 119 := blkL
 have k2 : BlkL w ga #[.int .i64 a0, .int .i64 a1, .int .i64 a2, .int .i64 (p : Nat), .slice E ne ce, .int .i64 a5, .int .i64 a6] ta := blkL
 have k3 : RowL w gr := ⟨row.out⟩
 have k4 : LtB gr w.heap.size := inferInstance
 have k5 : LtB g w.heap.size := inferInstance
 have hq2 := (mayB_parts hq).2
 clear h q hg ha row av1 av2 av3
 have HM := Aside0.mk hm
 have hs := (mayB_parts hq).1
 have hmo : msgB mo = true := queueB_msg hq2 (List.mem_of_getElem? hm)
 obtain ⟨_, pf, pt, pne, _⟩ := msgB_kind hmo
 have pne2 : (mo.f1 == mo.f2) = false := by simpa using pne
 have hn1 : nodeB x = true := by
  obtain ⟨hq, e⟩ := List.getElem?_eq_some_iff.1 hx1
  rw [← e]; exact (nodesB_at hs _ hq).1
 obtain ⟨hp, hpid⟩ := placeN_at hs hnode
 have hto : mo.f2 = x.f1.f0 := by
  obtain ⟨hq, e⟩ := List.getElem?_eq_some_iff.1 hx1
  rw [← e]; exact hpid.symm
 have HTO := Aside0.mk hto
 generalize hy : handN x mo = y at hx3 hx4 hx5 ⊢
 generalize hsm : handM x mo = sm at hx5 ⊢
 have HY := Aside0.mk hy
 have HS := Aside0.mk hsm
 clear hy hsm
 clear hm pne hpid hto
 generalize hpl : placeN ns mo.f2 = r at *
 have HPL := Aside0.mk hpl
 clear hpl
 go_enter Tryz.func68, Tryz.ntmps68
 go_upto_region 3 with (first | (go_at_call 125; (with_reducible refine cM (picked_ hq2 hk0) ?_); rintro e w1 ⟨m1, hm1, A3, c3, A1, c1, rfl, hF1, hG1, hb1⟩; obtain rfl : m1 = mo := Option.some.inj (hm1.symm.trans HM.out)) | (with_reducible refine box_tc rfl (N := 4) rfl (cs := #[.int .i64 0, .int .i64 0, .int .i64 0, .slice none 0 0, .int .i64 0, .int .i64 0, .int .i64 0, .int .i64 0, .int .i64 0, .bool false, .bool false]) (t := 126) ?hr ?_; (case hr => go_simp <;> rfl); intro g4 wg4 hg4a hg4b hg4c))
 refine wp_letter ?_
 intro w2 hb2
 have u1 : BlkL w2 g #[.slice (some ⟨gr, 0, none⟩) n c, .slice B 0 d, .slice A1 (k - 1) c1] 119 := blkL
 have u4 : BlkL w2 g4 #[.int .i64 m1.f0, .int .i64 m1.f1, .int .i64 m1.f2, .slice A3 m1.f3.length c3, .int .i64 m1.f4, .int .i64 m1.f5.f0, .int .i64 m1.f5.f1.f0, .int .i64 m1.f5.f1.f1, .int .i64 m1.f5.f2, .bool m1.f5.f3, .bool m1.f6] 126 := blkL
 have t1 : FrL k40 40 w2 b (Both w2.heap.size g) (some ⟨gr, 0, none⟩) n c ns := frl_both
 have t2 : FrL k126 126 w2 b (Three w2.heap.size g gr) A1 (k - 1) c1 (ps.eraseIdx (p % k)) := frl_three
 have t3 : SrL kI w2 A3 m1.f3.length c3 m1.f3 := sr_l inferInstance
 have u3 : RowL w2 gr := ⟨Row.out⟩
 have bb : BbL b w w2 := bbL
 have lb2 : LeB b w2.heap.size := inferInstance
 clear hb2 hb1 hF1 hG1 hg4a hg4b hg4c s1 s2 k1 k2 k3 k4 k5
 obtain ⟨X2, y2, X3, y3, X4, y4, X5, y5, x0, x1, x2, x3, x4, x5, r2, r3, r4, r5⟩ := own_el40 (W := w2) (g := gr) (n := n) (c := c) (l := ns) r hp
 have he : ns[r] = x := by obtain ⟨_, e⟩ := List.getElem?_eq_some_iff.1 hx1; exact e
 rw [he] at x0 x1 x2 x3 x4 x5 r2 r3 r4 r5
 obtain ⟨up, ⟨id, vs, ys⟩, is, ls⟩ := x
 simp only at x0 x1 x2 x3 x4 x5 r2 r3 r4 r5 hx2
 subst hx2
 clear hx1 he
 refine wp_letter fun w6 hb6 => ?_
 go_region_held3 (fun w' => BelL w6 w') (first | exact belL) (first | (go_at_call 126; (with_reducible refine cM (cutsIs0_ pf pt pne2) ?_); rintro e wc ⟨rfl, hb⟩))
 all_goals
  go_upto_region 6 with (first | (with_reducible refine box_tc rfl (N := 45) rfl (cs := #[.int .i64 0, .int .i64 m1.f2, .int .i64 0, .int .i64 0, .slice none 0 0, .int .i64 0, .int .i64 0]) (t := 69) ?hr ?_; (case hr => go_simp <;> rfl); intro g45 wg45 _ _ _) | (go_at_call 122; (with_reducible refine cM (doerNode_ hs hnode) ?_); rw [HPL.out]; rintro e wn ⟨rfl, hbn⟩))
  refine wp_letter fun w7 hb7 => ?_
  go_region_held3 (fun w' => BelL w7 w') (first | exact belL) (first | (go_at_call 127; (with_reducible refine cM (handle_ hn1 hmo HTO.out) ?_); rw [HY.out, HS.out]; rintro e w8 ⟨v8, M1, cm1, rfl, ⟨A6, c6, B6, d6, I6, ci6, L6, cl6, rfl, hF6, hG6, hH6, hK6⟩, hM8, hb8⟩))
  all_goals
   go_upto_region 8 with fail
   refine wp_letter ?_
   intro w3 hb3
   have f1 : Fr k98 98 w3 _ _ A6 y.f1.f1.length c6 y.f1.f1 := inferInstance
   have f2 : Fr kI 3 w3 _ _ B6 y.f1.f2.length d6 y.f1.f2 := inferInstance
   have f3 : Fr k48 48 w3 _ _ I6 y.f2.length ci6 y.f2 := inferInstance
   have f4 : Lg w3 _ _ L6 y.f3.length cl6 y.f3 := inferInstance
   have f0 : Fr k40 40 w3 _ _ (some ⟨gr, 0, none⟩) n c ns := inferInstance
   have hput := node_put (x := y) f0 r hp f1 f2 f3 f4 LeB.out LtB.out
   clear f0 f1 f2 f3 f4
   go_wp2_with (first | (go_at_call 124; (with_reducible refine cM (send_ hx3 hx4 hx5) ?_); rintro e w5 ⟨rfl, hD, hkb⟩))
   go_end0
   exact ⟨rfl, doer_lower hD LeB.out, bbL⟩
end
section
attribute [local go_sem] cell_tc2 frozen_row
set_option maxRecDepth 100000 in
set_option maxHeartbeats 8000000 in
theorem doerDeliverDown_ {g ga gr n c d k f ta ne ce b p : Nat} {a0 a1 a2 a5 a6 : Int} {B C E : Option Addr} {ns : List S40} {ps : List S126} {w : World} {S1 S2 : Nat → Prop} {mo : S126} [hg : Blk w g #[.slice (some ⟨gr, 0, none⟩) n c, .slice B 0 d, .slice C k f] 119] [ha : Blk w ga #[.int .i64 a0, .int .i64 a1, .int .i64 a2, .int .i64 (p : Nat), .slice E ne ce, .int .i64 a5, .int .i64 a6] ta] [h : Fr k40 40 w b S1 (some ⟨gr, 0, none⟩) n c ns] [q : Fr k126 126 w b S2 C k f ps] [av1 : Avoid g b S1] [av2 : Avoid g b S2] [av3 : Avoid gr b S2] [row : Row w gr] [ge1 : GeB b g] [ge2 : GeB b gr] [lb : LeB b w.heap.size] (hq : mayB ns ps = true) (hk0 : 0 < k) (hm : ps[p % k]? = some mo) (hnode : isNode ns mo.f2 = true) {x : S40} (hx1 : ns[placeN ns mo.f2]? = some x) (hx2 : x.f0 = false) :
 Calls Tryz.prog 68 #[.pointer (some ⟨g, 0, none⟩), .pointer (some ⟨ga, 0, none⟩)] w fun e w' => e = .returned (.tuple #[]) ∧ DoerIs w' g b ns (ps.eraseIdx (p % k)) ∧ BbL b w w' := by
 have hlen := h.len
 have hlp := q.len
 have s1 : FrL k40 40 w b (Both w.heap.size g) (some ⟨gr, 0, none⟩) n c ns := frl_both
 have s2 : FrL k126 126 w b (Three w.heap.size g gr) C k f ps := frl_three
 have kne : NeB g gr := ⟨fun e => av1.out gr (Fr.ge_row h) (h.R.1 gr rfl) e.symm⟩
 have kne2 : NeB gr g := ⟨fun e => kne.out e.symm⟩
 have k1 : BlkL w g #[.slice (some ⟨gr, 0, none⟩) n c, .slice B 0 d, .slice C k f] 119 := blkL
 have k2 : BlkL w ga #[.int .i64 a0, .int .i64 a1, .int .i64 a2, .int .i64 (p : Nat), .slice E ne ce, .int .i64 a5, .int .i64 a6] ta := blkL
 have k3 : RowL w gr := ⟨row.out⟩
 have k4 : LtB gr w.heap.size := inferInstance
 have k5 : LtB g w.heap.size := inferInstance
 have hq2 := (mayB_parts hq).2
 clear h q hg ha row av1 av2 av3
 have HM := Aside0.mk hm
 have hs := (mayB_parts hq).1
 have hmo : msgB mo = true := queueB_msg hq2 (List.mem_of_getElem? hm)
 obtain ⟨_, pf, pt, pne, _⟩ := msgB_kind hmo
 have pne2 : (mo.f1 == mo.f2) = false := by simpa using pne
 have hn1 : nodeB x = true := by
  obtain ⟨hq, e⟩ := List.getElem?_eq_some_iff.1 hx1
  rw [← e]; exact (nodesB_at hs _ hq).1
 have hsz := nodeB_small hn1
 have hp : placeN ns mo.f2 < ns.length := (placeN_at hs hnode).1
 have hle : (ps.eraseIdx (p % k)).length = k - 1 := by
  rw [List.length_eraseIdx_of_lt (by rw [hlp]; exact Nat.mod_lt _ hk0), hlp]
 have HLE := Aside0.mk hle
 clear hm pne hle
 generalize hpl : placeN ns mo.f2 = r at *
 have HPL := Aside0.mk hpl
 clear hpl
 go_enter Tryz.func68, Tryz.ntmps68
 go_upto_region 3 with (first | (go_at_call 125; (with_reducible refine cM (picked_ hq2 hk0) ?_); rintro e w1 ⟨m1, hm1, A3, c3, A1, c1, rfl, hF1, hG1, hb1⟩; obtain rfl : m1 = mo := Option.some.inj (hm1.symm.trans HM.out)) | (with_reducible refine box_tc rfl (N := 4) rfl (cs := #[.int .i64 0, .int .i64 0, .int .i64 0, .slice none 0 0, .int .i64 0, .int .i64 0, .int .i64 0, .int .i64 0, .int .i64 0, .bool false, .bool false]) (t := 126) ?hr ?_; (case hr => go_simp <;> rfl); intro g4 wg4 hg4a hg4b hg4c))
 refine wp_letter ?_
 intro w2 hb2
 have u1 : BlkL w2 g #[.slice (some ⟨gr, 0, none⟩) n c, .slice B 0 d, .slice A1 (k - 1) c1] 119 := blkL
 have u4 : BlkL w2 g4 #[.int .i64 m1.f0, .int .i64 m1.f1, .int .i64 m1.f2, .slice A3 m1.f3.length c3, .int .i64 m1.f4, .int .i64 m1.f5.f0, .int .i64 m1.f5.f1.f0, .int .i64 m1.f5.f1.f1, .int .i64 m1.f5.f2, .bool m1.f5.f3, .bool m1.f6] 126 := blkL
 have t1 : FrL k40 40 w2 b (Both w2.heap.size g) (some ⟨gr, 0, none⟩) n c ns := frl_both
 have t2 : FrL k126 126 w2 b (Three w2.heap.size g gr) A1 (k - 1) c1 (ps.eraseIdx (p % k)) := frl_three
 have t3 : SrL kI w2 A3 m1.f3.length c3 m1.f3 := sr_l inferInstance
 have u3 : RowL w2 gr := ⟨Row.out⟩
 have bb : BbL b w w2 := bbL
 have lb2 : LeB b w2.heap.size := inferInstance
 clear hb2 hb1 hF1 hG1 hg4a hg4b hg4c s1 s2 k1 k2 k3 k4 k5
 obtain ⟨X2, y2, X3, y3, X4, y4, X5, y5, x0, x1, x2, x3, x4, x5, r2, r3, r4, r5⟩ := own_el40 (W := w2) (g := gr) (n := n) (c := c) (l := ns) r hp
 have he : ns[r] = x := by obtain ⟨_, e⟩ := List.getElem?_eq_some_iff.1 hx1; exact e
 rw [he] at x0 x1 x2 x3 x4 x5 r2 r3 r4 r5
 obtain ⟨up, ⟨id, vs, ys⟩, is, ls⟩ := x
 simp only at x0 x1 x2 x3 x4 x5 r2 r3 r4 r5 hx2
 subst hx2
 clear hx1 he
 simp only at hsz
 refine wp_letter fun w6 hb6 => ?_
 go_region_held3 (fun w' => BelL w6 w') (first | exact belL) (first | (go_at_call 126; (with_reducible refine cM (cutsIs0_ pf pt pne2) ?_); rintro e wc ⟨rfl, hb⟩))
 all_goals
  go_upto_region 6 with (first | (with_reducible refine box_tc rfl (N := 45) rfl (cs := #[.int .i64 0, .int .i64 m1.f2, .int .i64 0, .int .i64 0, .slice none 0 0, .int .i64 0, .int .i64 0]) (t := 69) ?hr ?_; (case hr => go_simp <;> rfl); intro g45 wg45 _ _ _) | (go_at_call 122; (with_reducible refine cM (doerNode_ hs hnode) ?_); rw [HPL.out]; rintro e wn ⟨rfl, hbn⟩))
  refine wp_letter fun w7 hb7 => ?_
  go_region_held3 (fun w' => BelL w7 w') (first | exact belL) (first | (go_at_call 127; (with_reducible refine cM (handleDown_ (by omega)) ?_); rintro e w8 ⟨rfl, hb8⟩))
  all_goals
   go_wp2
   go_end0
   subst hlen
   exact ⟨rfl, ⟨_, _, _, _, _, _, by rw [HLE.out]; exact blkL, frl_but, by rw [HLE.out]; exact frl_but⟩, bbL⟩
set_option maxRecDepth 100000 in
set_option maxHeartbeats 8000000 in
theorem doerDeliver0_ {g ga gr n c d f ta ne ce b p : Nat} {a0 a1 a2 a5 a6 : Int} {B C E : Option Addr} {ns : List S40} {w : World} {S1 S2 : Nat → Prop} [hg : Blk w g #[.slice (some ⟨gr, 0, none⟩) n c, .slice B 0 d, .slice C 0 f] 119] [ha : Blk w ga #[.int .i64 a0, .int .i64 a1, .int .i64 a2, .int .i64 (p : Nat), .slice E ne ce, .int .i64 a5, .int .i64 a6] ta] [h : Fr k40 40 w b S1 (some ⟨gr, 0, none⟩) n c ns] [q : Fr k126 126 w b S2 C 0 f ([] : List S126)] [av1 : Avoid g b S1] [av2 : Avoid g b S2] [av3 : Avoid gr b S2] [row : Row w gr] [ge1 : GeB b g] [ge2 : GeB b gr] [lb : LeB b w.heap.size] :
 Calls Tryz.prog 68 #[.pointer (some ⟨g, 0, none⟩), .pointer (some ⟨ga, 0, none⟩)] w fun e w' => e = .returned (.tuple #[]) ∧ DoerIs w' g b ns [] ∧ BbL b w w' := by
 have hlen := h.len
 have s1 : FrL k40 40 w b (Both w.heap.size g) (some ⟨gr, 0, none⟩) n c ns := frl_both
 have s2 : FrL k126 126 w b (Three w.heap.size g gr) C 0 f ([] : List S126) := frl_three
 have kne : NeB g gr := ⟨fun e => av1.out gr (Fr.ge_row h) (h.R.1 gr rfl) e.symm⟩
 have kne2 : NeB gr g := ⟨fun e => kne.out e.symm⟩
 have k1 : BlkL w g #[.slice (some ⟨gr, 0, none⟩) n c, .slice B 0 d, .slice C 0 f] 119 := blkL
 have k2 : BlkL w ga #[.int .i64 a0, .int .i64 a1, .int .i64 a2, .int .i64 (p : Nat), .slice E ne ce, .int .i64 a5, .int .i64 a6] ta := blkL
 have k3 : RowL w gr := ⟨row.out⟩
 have k4 : LtB gr w.heap.size := inferInstance
 have k5 : LtB g w.heap.size := inferInstance
 clear h q hg ha row av1 av2 av3
 subst hlen
 go_enter Tryz.func68, Tryz.ntmps68
 go_wp2_with (first | (go_at_call 125; (with_reducible refine Calls.mono picked0_ ?_); rintro e w1 ⟨rfl, hb1⟩) | (with_reducible refine box_tc rfl (N := 4) rfl (cs := #[.int .i64 0, .int .i64 0, .int .i64 0, .slice none 0 0, .int .i64 0, .int .i64 0, .int .i64 0, .int .i64 0, .int .i64 0, .bool false, .bool false]) (t := 126) ?hr ?_; (case hr => go_simp <;> rfl); intro g4 wg4 hg4a hg4b hg4c))
 refine bodyPost_ret (results_none rfl _ _ _) rfl ?_
 exact ⟨rfl, ⟨_, _, _, _, _, _, blkL, frl_but, frl_but⟩, bbL⟩
end
def keyI (i : S48) : Int := i.f0
theorem storeB_iff {l : List S48} : storeB l = true ↔ l.length ≤ 16 ∧ (∀ i ∈ l, itemOk i = true) ∧ Rises keyI l := by
 constructor
 ·intro h
  refine ⟨storeB_len h, fun x hx => ?_, List.pairwise_iff_getElem.2 fun i j hi hj hij => storeB_lt' h hij hj⟩
  obtain ⟨i, hi, rfl⟩ := List.getElem_of_mem hx
  exact (storeB_at h i hi).1
 ·rintro ⟨h1, h2, h3⟩
  unfold storeB
  simp only [Bool.and_eq_true, List.all_eq_true, List.mem_range, decide_eq_true_eq]
  refine ⟨fun i hi => storeAt_yes hi (h2 _ (List.getElem_mem hi)) ?_, h1⟩
  by_cases h0 : i = 0
  ·exact .inl h0
  ·right
   rw [getD48 (by omega)]
   exact List.pairwise_iff_getElem.1 h3 (i - 1) i (by omega) hi (by omega)
theorem getI_some {l : List S48} (h : storeB l = true) {key : Int} {x : S48} : getI l key = some x ↔ x ∈ l ∧ x.f0 = key := by
 unfold getI
 rw [if_pos h]
 constructor
 ·intro e
  have h1 := List.find?_some e
  exact ⟨List.mem_of_find?_eq_some e, by simpa using h1⟩
 ·rintro ⟨h1, h2⟩
  obtain ⟨_, _, hr⟩ := storeB_iff.1 h
  cases e : l.find? (fun i => i.f0 == key) with
  | none =>
    rw [List.find?_eq_none] at e
    exact absurd (by simpa using h2) (e x h1)
  | some y =>
    have h3 := List.find?_some e
    have h4 := List.mem_of_find?_eq_some e
    rw [rises_inj hr h4 h1 (by show y.f0 = x.f0; rw [h2]; simpa using h3)]
theorem getI_none {l : List S48} (h : storeB l = true) {key : Int} : getI l key = none ↔ ∀ x ∈ l, x.f0 ≠ key := by
 constructor
 ·intro e x hx hk
  have := (getI_some h).2 ⟨hx, hk⟩
  rw [e] at this
  cases this
 ·intro hn
  cases e : getI l key with
  | none => rfl
  | some x => obtain ⟨h1, h2⟩ := (getI_some h).1 e; exact absurd h2 (hn x h1)
theorem putH_some {l : List S48} (h : storeB l = true) {key : Int} : putH l key = (getI l key).isSome := by
 cases e : putH l key
 ·rw [getI_miss h e]; rfl
 ·obtain ⟨hn, e2⟩ := getI_hit h e; rw [e2]; rfl
theorem bestI_key {a b : S48} (ha : itemOk a = true) (hb : itemOk b = true) (e : a.f0 = b.f0) : (bestI a b).f0 = b.f0 ∧ itemOk (bestI a b) = true ∧ (bestI a b = a ∨ bestI a b = b) := by
 have hB : bestB a b = true := by unfold bestB; rw [ha, hb]; simpa using e
 unfold bestI
 rw [if_pos hB]
 split
 ·exact ⟨e, ha, .inl rfl⟩
 ·exact ⟨rfl, hb, .inr rfl⟩
theorem itemC_key (l : List S48) (key : Int) : itemC l key = fun i => cmpI (keyI (l.getD i z48)) key := rfl
theorem put_in {l : List S48} {i b : S48} (h : storeB l = true) (hi : itemOk i = true) (hb : b ∈ l) (e : b.f0 = i.f0) : putE l i = 0 ∧ putL l i = ins keyI (bestI b i) l := by
 obtain ⟨_, h2, hr⟩ := storeB_iff.1 h
 have hO : putOk l i = true := by unfold putOk; rw [h, hi]; rfl
 have hg := (getI_some h).2 ⟨hb, e⟩
 have hH : putH l i.f0 = true := by rw [putH_some h, hg]; rfl
 refine ⟨by unfold putE; rw [if_pos hO, if_pos hH], ?_⟩
 unfold putL
 rw [if_pos hO, if_pos hH]
 obtain ⟨hn, e2⟩ := getI_hit h hH
 rw [hg] at e2
 have e3 : l.getD (putN l i.f0) z48 = b := by
  unfold putN
  rw [getD48 hn]
  exact (Option.some.inj e2).symm
 rw [e3]
 have hk := (bestI_key (h2 b hb) hi e).1
 have := ins_set (f := keyI) (y := bestI b i) z48 hr hb (by show b.f0 = (bestI b i).f0; rw [hk, e])
 unfold putN
 rw [itemC_key]
 rw [show keyI (bestI b i) = i.f0 from hk] at this
 exact this
theorem put_new {l : List S48} {i : S48} (h : storeB l = true) (hi : itemOk i = true) (hn : ∀ a ∈ l, a.f0 ≠ i.f0) : (l.length = 16 → putE l i = 501) ∧ (l.length ≠ 16 → putE l i = 0 ∧ putL l i = ins keyI i l) := by
 obtain ⟨_, h2, hr⟩ := storeB_iff.1 h
 have hO : putOk l i = true := by unfold putOk; rw [h, hi]; rfl
 have hH : putH l i.f0 = false := by rw [putH_some h, (getI_none h).2 hn]; rfl
 have hH2 : ¬ putH l i.f0 = true := by rw [hH]; exact Bool.false_ne_true
 refine ⟨fun e => by unfold putE; rw [if_pos hO, if_neg hH2, if_pos e], fun e => ⟨by unfold putE; rw [if_pos hO, if_neg hH2, if_neg e], ?_⟩⟩
 unfold putL
 rw [if_pos hO, if_neg hH2, if_neg e]
 unfold putN
 rw [itemC_key]
 exact ins_new (f := keyI) (y := i) z48 hr hn
theorem put_ok {l : List S48} {i : S48} (h : storeB l = true) (hi : itemOk i = true) (he : putE l i = 0) : storeB (putL l i) = true := by
 obtain ⟨h1, h2, hr⟩ := storeB_iff.1 h
 rw [storeB_iff]
 cases hg : getI l i.f0 with
 | some b =>
   obtain ⟨hb, e⟩ := (getI_some h).1 hg
   obtain ⟨_, e2⟩ := put_in h hi hb e
   obtain ⟨k1, k2, _⟩ := bestI_key (h2 b hb) hi e
   rw [e2]
   refine ⟨Nat.le_trans (ins_len_in hb (by show b.f0 = (bestI b i).f0; rw [k1, e])) h1, fun x hx => ?_, ins_rises hr⟩
   rcases mem_ins.1 hx with rfl | ⟨hx, _⟩
   ·exact k2
   ·exact h2 x hx
 | none =>
   have hn := (getI_none h).1 hg
   obtain ⟨n1, n2⟩ := put_new h hi hn
   have h16 : l.length ≠ 16 := fun e => by have := n1 e; omega
   rw [(n2 h16).2]
   refine ⟨Nat.le_trans ins_len (by omega), fun x hx => ?_, ins_rises hr⟩
   rcases mem_ins.1 hx with rfl | ⟨hx, _⟩
   ·exact hi
   ·exact h2 x hx
theorem takeL_ok {l : List S48} {i : S48} (h : storeB l = true) (hi : itemOk i = true) : storeB (takeL l i) = true := by
 unfold takeL
 split
 ·rename_i he
  exact put_ok h hi (by simpa using he)
 ·exact h
theorem toldB_note {key : Int} {i : S48} {has : Bool} (hk : placeB key = true) (hi : has = true → itemOk i = true) : toldB (noteT key i has) = true := by
 unfold noteT
 split
 ·rename_i hc
  simp only [Bool.and_eq_true] at hc
  have := hi hc.1
  unfold itemOk itemB at this
  simp only [Bool.and_eq_true] at this
  unfold toldB
  simp [hk, this.1.1.2]
 ·show (placeB key && placeB 0 && (false || (0 : Int) == 0)) = true
  rw [hk]
  rfl
theorem withL_eq {l : List Int} {x : Int} (h : passB l = true) (hx : placeB x = true) (hr : x ∈ l ∨ l.length < 16) : withL l x = ins (fun y : Int => y) x l := by
 obtain ⟨h1, h2, h3⟩ := passB_iff.1 h
 unfold withL withOk
 rw [h, hx]
 simp only [Bool.and_self, if_true]
 have hC : intC l x = fun i => cmpI ((fun y : Int => y) (l.getD i 0)) x := rfl
 by_cases hm : x ∈ l
 ·have hH : posH l x = true := by
   unfold posH
   rw [hit_iff _ _ (intC_mono h x) (fun a b hab hb hc => by
    rw [intC_at (by omega)]
    rw [intC_at hb] at hc
    have := passB_lt' h hab hb
    refine cmpI_neg.2 ?_
    by_cases h6 : l[b] = x
    ·omega
    ·have h5 : cmpI l[b] x < 0 := by
      have : cmpI l[b] x ≠ 0 := fun e => h6 (cmpI_zero.1 e)
      omega
     have := cmpI_neg.1 h5
     omega)]
   obtain ⟨i, hi, e⟩ := List.getElem_of_mem hm
   exact ⟨i, hi, by rw [intC_at hi]; exact cmpI_zero.2 e⟩
  rw [if_pos hH]
  exact (ins_same (f := fun y : Int => y) h3 hm).symm
 ·have hH : ¬ posH l x = true := by
   intro hc
   unfold posH hit at hc
   simp only [Bool.and_eq_true, decide_eq_true_eq, beq_iff_eq] at hc
   rw [intC_at hc.1] at hc
   have := cmpI_zero.1 hc.2
   exact hm (this ▸ List.getElem_mem _)
  rw [if_neg hH, if_neg (by rcases hr with h4 | h4; exact absurd h4 hm; omega)]
  unfold posN
  rw [hC]
  exact ins_new (f := fun y : Int => y) (y := x) 0 h3 (fun a ha e => hm (e ▸ ha))
theorem lostMany_ok : ∀ {lost xs : List Int} (_ : passB xs = true) (_ : ∀ x ∈ lost, placeB x = true) (_ : xs.length + lost.length ≤ 16), passB (lostMany xs lost) = true ∧ (∀ y, y ∈ lostMany xs lost ↔ y ∈ xs ∨ y ∈ lost) ∧ (lostMany xs lost).length ≤ xs.length + lost.length := by
 intro lost
 induction lost with
 | nil => exact fun h _ _ => ⟨h, fun y => by simp [lostMany], Nat.le_refl _⟩
 | cons x lost ih =>
   intro xs h hp hl
   rw [List.length_cons] at hl
   obtain ⟨h1, h2, h3⟩ := passB_iff.1 h
   have hx := hp x (List.mem_cons_self ..)
   have e := withL_eq h hx (.inr (by omega))
   have hl2 : (withL xs x).length ≤ xs.length + 1 := by rw [e]; exact ins_len
   have hpw : passB (withL xs x) = true := by
    rw [e]
    refine passB_iff.2 ⟨by rw [← e]; omega, fun y hy => ?_, ins_rises h3⟩
    rcases mem_ins.1 hy with rfl | ⟨hy, _⟩
    ·exact hx
    ·exact h2 y hy
   obtain ⟨i1, i2, i3⟩ := ih hpw (fun y hy => hp y (List.mem_cons_of_mem _ hy)) (by omega)
   refine ⟨i1, fun y => ?_, by rw [List.length_cons]; exact Nat.le_trans i3 (by omega)⟩
   have := i2 y
   show y ∈ lostMany (withL xs x) lost ↔ _
   rw [this, e, mem_ins, List.mem_cons]
   constructor
   ·rintro ((rfl | ⟨h4, _⟩) | h4)
    ·exact .inr (.inl rfl)
    ·exact .inl h4
    ·exact .inr (.inr h4)
   ·rintro (h4 | rfl | h4)
    ·by_cases h5 : y = x
     ·exact .inl (.inl h5)
     ·exact .inl (.inr ⟨h4, h5⟩)
    ·exact .inl (.inl rfl)
    ·exact .inr h4
theorem mem_aged {ps : List S98} {p : S98} : p ∈ aged ps ↔ ∃ q ∈ ps, q.f1 ≠ 2 ∧ p = ⟨q.f0, q.f1 + 1⟩ := by
 unfold aged
 rw [List.mem_flatMap]
 constructor
 ·rintro ⟨q, hq, hp⟩
  unfold agedOne at hp
  split at hp
  ·cases hp
  ·exact ⟨q, hq, ‹_›, List.mem_singleton.1 hp⟩
 ·rintro ⟨q, hq, h2, rfl⟩
  exact ⟨q, hq, by unfold agedOne; rw [if_neg h2]; exact List.mem_singleton.2 rfl⟩
theorem mem_lost {ps : List S98} {y : Int} : y ∈ lostOf ps ↔ ∃ q ∈ ps, q.f1 = 2 ∧ y = q.f0 := by
 unfold lostOf
 rw [List.mem_flatMap]
 constructor
 ·rintro ⟨q, hq, hp⟩
  unfold lostOne at hp
  split at hp
  ·exact ⟨q, hq, ‹_›, List.mem_singleton.1 hp⟩
  ·cases hp
 ·rintro ⟨q, hq, h2, rfl⟩
  exact ⟨q, hq, by unfold lostOne; rw [if_pos h2]; exact List.mem_singleton.2 rfl⟩
theorem aged_lost_len : ∀ ps : List S98, (aged ps).length + (lostOf ps).length = ps.length
 | [] => rfl
 | p :: ps => by
   have := aged_lost_len ps
   unfold aged lostOf at *
   rw [List.flatMap_cons, List.flatMap_cons, List.length_append, List.length_append, List.length_cons]
   have h : (agedOne p).length + (lostOne p).length = 1 := by unfold agedOne lostOne; split <;> rfl
   omega
theorem aged_rises {id : Int} : ∀ {ps : List S98} (_ : Rises (farK id) ps), Rises (farK id) (aged ps)
 | [], _ => List.Pairwise.nil
 | p :: ps, h => by
   have hc := (List.pairwise_cons.1 h).1
   have ih := aged_rises h.tail
   unfold aged
   rw [List.flatMap_cons]
   unfold agedOne
   split
   ·exact ih
   ·refine List.pairwise_cons.2 ⟨fun q hq => ?_, ih⟩
    obtain ⟨r, hr, _, rfl⟩ := mem_aged.1 hq
    exact hc r hr
theorem stepV_ok {v : S25} (h : VOk v.f0 v.f1 v.f2) : VOk v.f0 (aged v.f1) (tickXs v) := by
 have hl := aged_lost_len v.f1
 have h16 := h.len
 obtain ⟨t1, t2, t3⟩ := lostMany_ok (lost := lostOf v.f1) h.passB (fun x hx => by obtain ⟨q, hq, _, rfl⟩ := mem_lost.1 hx; exact (h.p q hq).1) (by omega)
 refine ⟨h.hid, by unfold tickXs; omega, fun p hp => ?_, aged_rises h.rp, fun x hx => ?_, (passB_iff.1 t1).2.2⟩
 ·obtain ⟨q, hq, h2, rfl⟩ := mem_aged.1 hp
  obtain ⟨a, b, c, d⟩ := h.p q hq
  exact ⟨a, by show 0 ≤ q.f1 + 1; omega, by show q.f1 + 1 < 3; omega, d⟩
 ·refine ⟨(passB_iff.1 t1).2.1 x hx, ?_⟩
  rcases (t2 x).1 hx with h1 | h1
  ·refine ⟨(h.x x h1).2.1, fun p hp => ?_⟩
   obtain ⟨q, hq, h2, rfl⟩ := mem_aged.1 hp
   exact (h.x x h1).2.2 q hq
  ·obtain ⟨q, hq, h2, rfl⟩ := mem_lost.1 h1
   refine ⟨(h.p q hq).2.2.2, fun p hp e => ?_⟩
   obtain ⟨r, hr, h3, rfl⟩ := mem_aged.1 hp
   have := rises_inj h.rp hr hq (by show farI v.f0 r.f0 = farI v.f0 q.f0; rw [show r.f0 = q.f0 from e])
   exact h3 (this ▸ h2)
theorem mem_tickXs {v : S25} (h : VOk v.f0 v.f1 v.f2) {y : Int} : y ∈ tickXs v ↔ y ∈ v.f2 ∨ y ∈ lostOf v.f1 := by
 have hl := aged_lost_len v.f1
 have h16 := h.len
 exact (lostMany_ok (lost := lostOf v.f1) h.passB (fun x hx => by obtain ⟨q, hq, _, rfl⟩ := mem_lost.1 hx; exact (h.p q hq).1) (by omega)).2.1 y
def nid (x : S40) : Int := x.f1.f0
theorem nodeB_iff {x : S40} : nodeB x = true ↔ (x.f0 = true ∨ x.f1.f1.length + x.f1.f2.length + x.f2.length + x.f3.length = 0) ∧ VOk x.f1.f0 x.f1.f1 x.f1.f2 ∧ storeB x.f2 = true ∧ x.f3.length ≤ 64 ∧ ∀ t ∈ x.f3, toldB t = true := by
 unfold nodeB badTolds
 simp only [Bool.and_eq_true, Bool.or_eq_true, decide_eq_true_eq, viewB_iff, Bool.not_eq_true', List.any_eq_false, Bool.not_eq_true, Bool.not_eq_false, Bool.not_eq_false', and_assoc]
theorem nodesB_iff {ns : List S40} : nodesB ns = true ↔ 1 ≤ ns.length ∧ ns.length ≤ 8 ∧ (∀ x ∈ ns, nodeB x = true) ∧ Rises nid ns := by
 constructor
 ·intro h
  refine ⟨(nodesB_len h).1, (nodesB_len h).2, fun x hx => ?_, List.pairwise_iff_getElem.2 fun i j hi hj hij => nodesB_lt' h hij hj⟩
  obtain ⟨i, hi, rfl⟩ := List.getElem_of_mem hx
  exact (nodesB_at h i hi).1
 ·rintro ⟨h1, h2, h3, h4⟩
  unfold nodesB
  simp only [Bool.and_eq_true, List.all_eq_true, List.mem_range, decide_eq_true_eq]
  refine ⟨fun i hi => nodeAt_yes hi (h3 _ (List.getElem_mem hi)) ?_, h1, h2⟩
  by_cases h0 : i = 0
  ·exact .inl h0
  ·right
   rw [getD40 (by omega)]
   exact List.pairwise_iff_getElem.1 h4 (i - 1) i (by omega) hi (by omega)
theorem queueB_iff {ms : List S126} : queueB ms = true ↔ ms.length ≤ 512 ∧ ∀ m ∈ ms, msgB m = true := by
 unfold queueB badMsgs
 simp only [Bool.and_eq_true, decide_eq_true_eq, Bool.not_eq_true', List.any_eq_false, Bool.not_eq_true, Bool.not_eq_false, Bool.not_eq_false']
theorem isNode_iff {ns : List S40} {k : Int} : isNode ns k = true ↔ ∃ x ∈ ns, nid x = k := by
 unfold isNode nid; simp only [List.any_eq_true, beq_iff_eq]
theorem mayB_iff {ns : List S40} {ms : List S126} : mayB ns ms = true ↔ nodesB ns = true ∧ queueB ms = true ∧ (∀ x ∈ ns, ∀ y ∈ namedN1 x, isNode ns y = true) ∧ ∀ m ∈ ms, ∀ y ∈ namedM1 m, isNode ns y = true := by
 unfold mayB strayB namedL namedN namedM
 simp only [Bool.and_eq_true, Bool.not_eq_true', List.any_eq_false, Bool.not_eq_true, Bool.not_eq_false, Bool.not_eq_false', List.mem_append, List.mem_flatMap, and_assoc]
 constructor
 ·rintro ⟨h1, h2, h3⟩
  exact ⟨h1, h2, fun x hx y hy => h3 y (.inl ⟨x, hx, hy⟩), fun m hm y hy => h3 y (.inr ⟨m, hm, hy⟩)⟩
 ·rintro ⟨h1, h2, h3, h4⟩
  refine ⟨h1, h2, ?_⟩
  rintro y (⟨x, hx, hy⟩ | ⟨m, hm, hy⟩)
  ·exact h3 x hx y hy
  ·exact h4 m hm y hy
theorem set_map {ns : List S40} {i : Nat} {x y : S40} (hx : ns[i]? = some x) (e : nid y = nid x) : (ns.set i y).map nid = ns.map nid := by
 rw [List.map_set, e]
 exact set_same (by rw [List.getElem?_map, hx]; rfl)
theorem isNode_map {ns : List S40} {k : Int} : isNode ns k = true ↔ k ∈ ns.map nid := by
 rw [isNode_iff, List.mem_map]
theorem isNode_set {ns : List S40} {i : Nat} {x y : S40} (hx : ns[i]? = some x) (e : nid y = nid x) (k : Int) : isNode (ns.set i y) k = isNode ns k := by
 rw [Bool.eq_iff_iff, isNode_map, isNode_map, set_map hx e]
theorem nodes_set {ns : List S40} {i : Nat} {x y : S40} (h : nodesB ns = true) (hx : ns[i]? = some x) (hy : nodeB y = true) (e : nid y = nid x) : nodesB (ns.set i y) = true := by
 obtain ⟨h1, h2, h3, h4⟩ := nodesB_iff.1 h
 refine nodesB_iff.2 ⟨by rw [List.length_set]; exact h1, by rw [List.length_set]; exact h2, fun z hz => ?_, ?_⟩
 ·rcases List.mem_or_eq_of_mem_set hz with hz | rfl
  ·exact h3 z hz
  ·exact hy
 ·have h5 := List.pairwise_map.2 h4
  rw [← set_map hx e] at h5
  exact List.pairwise_map.1 h5
theorem may_set {ns : List S40} {ms ms' : List S126} {i : Nat} {x y : S40} (h : mayB ns ms = true) (hx : ns[i]? = some x) (hy : nodeB y = true) (e : nid y = nid x) (hk : ∀ z ∈ namedN1 y, isNode ns z = true) (hq : queueB ms' = true) (hm : ∀ m ∈ ms', ∀ z ∈ namedM1 m, isNode ns z = true) : mayB (ns.set i y) ms' = true := by
 obtain ⟨h1, h2, h3, h4⟩ := mayB_iff.1 h
 refine mayB_iff.2 ⟨nodes_set h1 hx hy e, hq, fun z hz k hk2 => ?_, fun m hm2 k hk2 => ?_⟩
 ·rw [isNode_set hx e]
  rcases List.mem_or_eq_of_mem_set hz with hz | rfl
  ·exact h3 z hz k hk2
  ·exact hk k hk2
 ·rw [isNode_set hx e]
  exact hm m hm2 k hk2
theorem nodesSz_of {ns : List S40} (h : nodesB ns = true) : nodesSz ns := fun x hx => by
 have := nodeB_small ((nodesB_iff.1 h).2.2.1 x hx)
 unfold nodeSz
 omega
theorem may_send {ns : List S40} {ps ms : List S126} (h : mayB ns ps = true) (g : mayB ns ms = true) : mayB ns (sendQ ps ms) = true := by
 obtain ⟨h1, h2, h3, h4⟩ := mayB_iff.1 h
 obtain ⟨_, g2, _, g4⟩ := mayB_iff.1 g
 obtain ⟨a1, a2⟩ := queueB_iff.1 h2
 obtain ⟨b1, b2⟩ := queueB_iff.1 g2
 refine mayB_iff.2 ⟨h1, queueB_iff.2 ⟨by rw [sendQ_len]; omega, fun m hm => ?_⟩, h3, fun m hm => ?_⟩
 ·rcases List.mem_append.1 hm with hm | hm
  ·exact a2 m hm
  ·exact b2 m (List.mem_of_mem_take hm)
 ·rcases List.mem_append.1 hm with hm | hm
  ·exact h4 m hm
  ·exact g4 m (List.mem_of_mem_take hm)
theorem may_sub {ns : List S40} {ps ms : List S126} (h : mayB ns ps = true) (hl : ms.length ≤ 512) (hs : ∀ m ∈ ms, m ∈ ps) : mayB ns ms = true := by
 obtain ⟨h1, h2, h3, h4⟩ := mayB_iff.1 h
 obtain ⟨a1, a2⟩ := queueB_iff.1 h2
 exact mayB_iff.2 ⟨h1, queueB_iff.2 ⟨hl, fun m hm => a2 m (hs m hm)⟩, h3, fun m hm => h4 m (hs m hm)⟩
theorem may_erase {ns : List S40} {ps : List S126} (h : mayB ns ps = true) (i : Nat) : mayB ns (ps.eraseIdx i) = true :=
 may_sub h (Nat.le_trans (List.length_eraseIdx_le ..) (queueB_len (mayB_parts h).2)) (fun m hm => List.mem_of_mem_eraseIdx hm)
theorem placeB_of_node {ns : List S40} {ms : List S126} (h : mayB ns ms = true) {k : Int} (hk : isNode ns k = true) : placeB k = true := by
 obtain ⟨x, hx, rfl⟩ := isNode_iff.1 hk
 exact ((nodeB_iff.1 ((nodesB_iff.1 (mayB_iff.1 h).1).2.2.1 x hx)).2.1).hid
theorem noneB_zero : noneB 0 0 z48 false = true := rfl
theorem mem_idsOf {ps : List S98} {y : Int} : y ∈ idsOf ps ↔ ∃ p ∈ ps, p.f0 = y := List.mem_map
theorem hello_ok {id : Int} {ids : List Int} {d : Int} (h1 : placeB id = true) (h2 : placeB d = true) (hn : id ≠ d) (hl : ids.length ≤ 16) (hp : ∀ y ∈ ids, placeB y = true) : msgB (helloM id ids d) = true := by
 have hk : kindB (helloM id ids d) = true := by
  show (noneB 0 0 z48 false && decide (ids.length ≤ 16) && placesB ids) = true
  rw [noneB_zero, decide_eq_true hl]
  exact List.all_eq_true.2 hp
 have hn2 : (id == d) = false := by simpa using hn
 show (placeB id && placeB d && !(id == d) && kindB (helloM id ids d)) = true
 rw [h1, h2, hn2, hk]
 rfl
theorem item_ok {id d : Int} {i : S48} (h1 : placeB id = true) (h2 : placeB d = true) (hn : id ≠ d) (hi : itemOk i = true) : msgB ⟨1, id, d, [], 0, i, false⟩ = true := by
 have hn2 : (id == d) = false := by simpa using hn
 show (placeB id && placeB d && !(id == d) && (noneB 0 0 z48 false && itemOk i)) = true
 rw [h1, h2, hn2, hi]
 rfl
theorem ask_ok {id d k : Int} (h1 : placeB id = true) (h2 : placeB d = true) (hn : id ≠ d) (hk : placeB k = true) : msgB ⟨2, id, d, [], k, z48, false⟩ = true := by
 have hn2 : (id == d) = false := by simpa using hn
 show (placeB id && placeB d && !(id == d) && (noneB 0 0 z48 false && placeB k)) = true
 rw [h1, h2, hn2, hk]
 rfl
theorem tell_ok {id d k : Int} {o : Option S48} (h1 : placeB id = true) (h2 : placeB d = true) (hn : id ≠ d) (hk : placeB k = true) (hi : ∀ i, o = some i → itemOk i = true ∧ i.f0 = k) : msgB ⟨3, id, d, [], k, o.getD z48, o.isSome⟩ = true := by
 have hn2 : (id == d) = false := by simpa using hn
 cases o with
 | none =>
   show (placeB id && placeB d && !(id == d) && (noneB 0 0 z48 false && placeB k && (!false || _))) = true
   rw [h1, h2, hn2, hk]
   rfl
 | some i =>
   obtain ⟨a, b⟩ := hi i rfl
   show (placeB id && placeB d && !(id == d) && (noneB 0 0 z48 false && placeB k && (!true || (itemOk i && (i.f0 == k))))) = true
   rw [h1, h2, hn2, hk, a, b]
   simp [noneB_zero]
theorem own_mem {v : S25} {key : Int} (h : VOk v.f0 v.f1 v.f2) (hk : placeB key = true) : vownI v key = v.f0 ∨ vownI v key ∈ idsOf v.f1 := by
 have hv : vownB v key = true := by unfold vownB; rw [viewB_iff.2 h, hk]; rfl
 have hpl : placesB (idsOf v.f1 ++ [v.f0]) = true := by
  refine List.all_eq_true.2 fun y hy => ?_
  rcases List.mem_append.1 hy with hy | hy
  ·obtain ⟨p, hp, rfl⟩ := mem_idsOf.1 hy
   exact (h.p p hp).1
  ·rw [List.mem_singleton.1 hy]; exact h.hid
 have hlen : (idsOf v.f1 ++ [v.f0]).length ≤ 64 := by
  have := h.len
  rw [List.length_append, idsOf_len, List.length_singleton]
  omega
 have hb : ownB (idsOf v.f1 ++ [v.f0]) key = true := by
  unfold ownB rowMayB
  rw [hk, hpl, decide_eq_true hlen]
  simp
 have := minI_mem (base := key) (l := idsOf v.f1 ++ [v.f0]) (by simp)
 unfold vownI ownI
 rw [if_pos hv, if_pos hb]
 rcases List.mem_append.1 this with h1 | h1
 ·exact .inr h1
 ·exact .inl (List.mem_singleton.1 h1)
theorem succ_mem {v : S25} (h : VOk v.f0 v.f1 v.f2) : succI v = v.f0 ∨ succI v ∈ idsOf v.f1 := by
 unfold succI
 rw [if_pos (viewB_iff.2 h)]
 cases e : v.f1 with
 | nil => exact .inl rfl
 | cons p ps => exact .inr (mem_idsOf.2 ⟨p, List.mem_cons_self .., rfl⟩)
theorem stepV_named {v : S25} (h : VOk v.f0 v.f1 v.f2) {y : Int} : y ∈ idsOf (aged v.f1) ++ tickXs v ↔ y ∈ idsOf v.f1 ++ v.f2 := by
 rw [List.mem_append, List.mem_append, mem_tickXs h, mem_idsOf, mem_idsOf]
 constructor
 ·rintro (⟨p, hp, rfl⟩ | h1 | h1)
  ·obtain ⟨q, hq, _, rfl⟩ := mem_aged.1 hp
   exact .inl ⟨q, hq, rfl⟩
  ·exact .inr h1
  ·obtain ⟨q, hq, _, rfl⟩ := mem_lost.1 h1
   exact .inl ⟨q, hq, rfl⟩
 ·rintro (⟨p, hp, rfl⟩ | h1)
  ·by_cases h2 : p.f1 = 2
   ·exact .inr (.inr (mem_lost.2 ⟨p, hp, h2, rfl⟩))
   ·exact .inl ⟨_, mem_aged.2 ⟨p, hp, h2, rfl⟩, rfl⟩
  ·exact .inr (.inl h1)
theorem stepN_ok {x : S40} (h : nodeB x = true) (hu : x.f0 = true) : nodeB (stepN x) = true := by
 obtain ⟨h1, h2, h3⟩ := nodeB_iff.1 h
 exact nodeB_iff.2 ⟨.inl hu, stepV_ok h2, h3⟩
theorem shareM_mem {v : S25} {is : List S48} (h : VOk v.f0 v.f1 v.f2) (hs : storeB is = true) {m : S126} (hm : m ∈ shareL v is) : ∃ i ∈ is, m = ⟨1, v.f0, shareTo v i.f0, [], 0, i, false⟩ ∧ shareTo v i.f0 ∈ idsOf v.f1 ∧ shareTo v i.f0 ≠ v.f0 ∧ itemOk i = true := by
 unfold shareL at hm
 obtain ⟨i, hi, e⟩ := List.mem_filterMap.1 hm
 have hio := (storeB_iff.1 hs).2.1 i hi
 have hk : placeB i.f0 = true := by
  unfold itemOk itemB at hio
  simp only [Bool.and_eq_true] at hio
  exact hio.1.1.1
 unfold shareM at e
 split at e
 ·cases e
 ·rename_i hne
  have hne2 : shareTo v i.f0 ≠ v.f0 := by simpa using hne
  refine ⟨i, hi, (Option.some.inj e).symm, ?_, hne2, hio⟩
  have : shareTo v i.f0 = v.f0 ∨ shareTo v i.f0 ∈ idsOf v.f1 := by
   unfold shareTo
   split
   ·exact succ_mem h
   ·exact own_mem h hk
  exact this.resolve_left hne2
theorem stepM_ok {x : S40} (h : nodeB x = true) : (stepM x).length ≤ 48 ∧ ∀ m ∈ stepM x, msgB m = true ∧ m.f1 = nid x ∧ m.f2 ∈ namedN1 x ∧ ∀ y ∈ m.f3, y ∈ namedN1 x := by
 obtain ⟨_, h2, h3, _⟩ := nodeB_iff.1 h
 have h2' := stepV_ok h2
 have hl := h2'.len
 have hpl : ∀ y ∈ idsOf (aged x.f1.f1) ++ tickXs x.f1, placeB y = true ∧ x.f1.f0 ≠ y := by
  intro y hy
  rcases List.mem_append.1 hy with hy | hy
  ·obtain ⟨p, hp, rfl⟩ := mem_idsOf.1 hy
   exact ⟨(h2'.p p hp).1, fun e => (h2'.p p hp).2.2.2 e.symm⟩
  ·exact ⟨(h2'.x y hy).1, fun e => (h2'.x y hy).2.1 e.symm⟩
 unfold stepM stepH
 refine ⟨?_, fun m hm => ?_⟩
 ·have := shareL_len (stepV x.f1) x.f2
  have := (storeB_iff.1 h3).1
  rw [List.length_append, List.length_map, List.length_append, idsOf_len]
  omega
 ·rcases List.mem_append.1 hm with hm | hm
  ·obtain ⟨d, hd, rfl⟩ := List.mem_map.1 hm
   refine ⟨hello_ok h2.hid (hpl d hd).1 (hpl d hd).2 (by rw [idsOf_len]; omega) (fun y hy => (hpl y (List.mem_append_left _ hy)).1), rfl, (stepV_named h2).1 hd, fun y hy => (stepV_named h2).1 (List.mem_append_left _ hy)⟩
  ·obtain ⟨i, hi, rfl, a1, a2, a3⟩ := shareM_mem (v := stepV x.f1) h2' h3 hm
   refine ⟨item_ok h2.hid (hpl _ (List.mem_append_left _ a1)).1 (fun e => a2 e.symm) a3, rfl, (stepV_named h2).1 (List.mem_append_left _ a1), fun y hy => by cases hy⟩
theorem hear1_named {id x : Int} {s : List S98 × List Int} (h : VOk id s.1 s.2) (hx : placeB x = true) (hn : x ≠ id) {y : Int} (hy : y ∈ idsOf (hear1 id s x).1 ++ (hear1 id s x).2) : y ∈ idsOf s.1 ++ s.2 ∨ y = x := by
 unfold hear1 at hy
 by_cases hr : knownB s.1 x = true ∨ x ∈ s.2 ∨ s.1.length + s.2.length < 16
 ·obtain ⟨e1, e2⟩ := (hear_ok h hx hn).2 hr
  rw [e1, e2] at hy
  rcases List.mem_append.1 hy with hy | hy
  ·obtain ⟨p, hp, rfl⟩ := mem_idsOf.1 hy
   rcases mem_ins.1 hp with rfl | ⟨hp, _⟩
   ·exact .inr rfl
   ·exact .inl (List.mem_append_left _ (mem_idsOf.2 ⟨p, hp, rfl⟩))
  ·exact .inl (List.mem_append_right _ (List.mem_filter.1 hy).1)
 ·have hr2 : (knownB s.1 x || memB s.2 x || decide (s.1.length + s.2.length < 16)) = false := by
   rw [← Bool.not_eq_true]
   intro hc
   simp only [Bool.or_eq_true, decide_eq_true_eq, memB_iff] at hc
   rcases hc with (hc | hc) | hc
   ·exact hr (.inl hc)
   ·exact hr (.inr (.inl hc))
   ·exact hr (.inr (.inr hc))
  have e1 : hearPs id s.1 s.2 x = s.1 := by unfold hearPs; rw [hr2]; rfl
  have e2 : hearXs s.1 s.2 x = s.2 := by unfold hearXs; rw [hr2]; rfl
  rw [e1, e2] at hy
  exact .inl hy
theorem hearMany_named {id : Int} {ids : List Int} : ∀ {s : List S98 × List Int} (_ : VOk id s.1 s.2) (_ : ∀ x ∈ ids, placeB x = true) {y : Int} (_ : y ∈ idsOf (hearMany id s ids).1 ++ (hearMany id s ids).2), y ∈ idsOf s.1 ++ s.2 ∨ y ∈ ids := by
 induction ids with
 | nil => exact fun _ _ y hy => .inl hy
 | cons z zs ih =>
   intro s h hp y hy
   have hz := hp z (List.mem_cons_self ..)
   have hy2 : y ∈ idsOf (hearMany id (hearStep id s z) zs).1 ++ (hearMany id (hearStep id s z) zs).2 := hy
   rcases ih (hearStep_ok h hz) (fun x hx => hp x (List.mem_cons_of_mem _ hx)) hy2 with h1 | h1
   ·unfold hearStep at h1
    split at h1
    ·exact .inl h1
    ·rename_i hc
     rcases hear1_named h hz (fun e => hc (by simp [e])) h1 with h2 | h2
     ·exact .inl h2
     ·exact .inr (h2 ▸ List.mem_cons_self ..)
   ·exact .inr (List.mem_cons_of_mem _ h1)
theorem hello_take {x : S40} {m : S126} (h : nodeB x = true) (hm : msgB m = true) (hto : m.f2 = nid x) (hk : m.f0 = 0) : takeB x.f1 m.f1 m.f3 = true := by
 obtain ⟨_, h2, _⟩ := nodeB_iff.1 h
 obtain ⟨_, p1, p2, p3, _⟩ := msgB_kind hm
 have hkB : kindB m = true := by unfold msgB at hm; simp only [Bool.and_eq_true] at hm; exact hm.2
 unfold kindB at hkB
 rw [if_pos hk] at hkB
 simp only [Bool.and_eq_true, decide_eq_true_eq] at hkB
 refine takeB_iff.2 ⟨h2, p1, fun e => p3 (e.trans hto.symm), hkB.1.2, fun y hy => ?_⟩
 exact List.all_eq_true.1 hkB.2 y hy
theorem msgB_key {m : S126} (hm : msgB m = true) (hk : m.f0 = 2 ∨ m.f0 = 3) : placeB m.f4 = true ∧ (m.f0 = 3 → m.f6 = true → itemOk m.f5 = true) := by
 have hkB : kindB m = true := by unfold msgB at hm; simp only [Bool.and_eq_true] at hm; exact hm.2
 unfold kindB at hkB
 rcases hk with hk | hk
 ·rw [if_neg (by omega), if_neg (by omega), if_pos hk] at hkB
  simp only [Bool.and_eq_true] at hkB
  exact ⟨hkB.2, fun e => by omega⟩
 ·rw [if_neg (by omega), if_neg (by omega), if_neg (by omega), if_pos hk] at hkB
  simp only [Bool.and_eq_true, Bool.or_eq_true, Bool.not_eq_true'] at hkB
  refine ⟨hkB.1.2, fun _ h6 => ?_⟩
  rcases hkB.2 with h | h
  ·rw [h6] at h; cases h
  ·exact h.1
theorem note_len {ls : List S77} {x : S77} (h : ls.length ≤ 64) : (noteL ls x).length ≤ 64 := by rw [noteL_len]; omega
theorem note_ok {x : S40} {T : S77} (h : nodeB x = true) (hu : x.f0 = true) (hT : toldB T = true) : nodeB ⟨x.f0, x.f1, x.f2, noteL x.f3 T⟩ = true := by
 obtain ⟨_, h2, h3, h4, h5⟩ := nodeB_iff.1 h
 refine nodeB_iff.2 ⟨.inl hu, h2, h3, note_len h4, fun t ht => ?_⟩
 have := List.mem_of_mem_drop ht
 rcases List.mem_append.1 this with h6 | h6
 ·exact h5 t h6
 ·rw [List.mem_singleton.1 h6]; exact hT
theorem items_ok {x : S40} {is : List S48} (h : nodeB x = true) (hu : x.f0 = true) (hs : storeB is = true) : nodeB ⟨x.f0, x.f1, is, x.f3⟩ = true := by
 obtain ⟨_, h2, _, h4⟩ := nodeB_iff.1 h
 exact nodeB_iff.2 ⟨.inl hu, h2, hs, h4⟩
theorem handN_ok {x : S40} {m : S126} (h : nodeB x = true) (hu : x.f0 = true) (hm : msgB m = true) (hto : m.f2 = nid x) : nodeB (handN x m) = true ∧ nid (handN x m) = nid x ∧ (handN x m).f0 = true ∧ ∀ y ∈ namedN1 (handN x m), y ∈ namedN1 x ∨ y = m.f1 ∨ y ∈ m.f3 := by
 obtain ⟨hk, _, _, _, hit⟩ := msgB_kind hm
 obtain ⟨_, h2, h3, h4, h5⟩ := nodeB_iff.1 h
 unfold handN
 rcases hk with k | k | k | k
 ·rw [if_pos k]
  have ht := hello_take h hm hto k
  have hv : takeV x.f1 m.f1 m.f3 = ⟨x.f1.f0, (takeS x.f1 m.f1 m.f3).1, (takeS x.f1 m.f1 m.f3).2⟩ := by unfold takeV; rw [if_pos ht]
  have hok := takeS_ok ht
  obtain ⟨_, p1, p2, _, p4⟩ := takeB_iff.1 ht
  rw [hv]
  refine ⟨nodeB_iff.2 ⟨.inl hu, hok, h3, h4, h5⟩, rfl, hu, fun y hy => ?_⟩
  have hy2 : y ∈ idsOf (takeS x.f1 m.f1 m.f3).1 ++ (takeS x.f1 m.f1 m.f3).2 := hy
  rcases hearMany_named (s := hear1 x.f1.f0 (x.f1.f1, x.f1.f2) m.f1) (hear_ok h2 p1 p2).1 p4 hy2 with h6 | h6
  ·rcases hear1_named (s := (x.f1.f1, x.f1.f2)) h2 p1 p2 h6 with h7 | h7
   ·exact .inl h7
   ·exact .inr (.inl h7)
  ·exact .inr (.inr h6)
 ·rw [if_neg (by omega), if_pos k]
  exact ⟨items_ok h hu (takeL_ok h3 (hit k)), rfl, hu, fun y hy => .inl hy⟩
 ·rw [if_neg (by omega), if_neg (by omega), if_pos k]
  exact ⟨h, rfl, hu, fun y hy => .inl hy⟩
 ·rw [if_neg (by omega), if_neg (by omega), if_neg (by omega)]
  obtain ⟨q1, q2⟩ := msgB_key hm (.inr k)
  exact ⟨note_ok h hu (toldB_note q1 (q2 k)), rfl, hu, fun y hy => .inl hy⟩
theorem handM_ok {x : S40} {m : S126} (h : nodeB x = true) (hm : msgB m = true) (hto : m.f2 = nid x) : (handM x m).length ≤ 1 ∧ ∀ o ∈ handM x m, msgB o = true ∧ o.f1 = nid x ∧ o.f2 = m.f1 ∧ o.f3 = [] := by
 obtain ⟨_, p1, p2, p3, _⟩ := msgB_kind hm
 obtain ⟨_, h2, h3, _⟩ := nodeB_iff.1 h
 unfold handM
 split
 ·rename_i k
  refine ⟨Nat.le_refl 1, fun o ho => ?_⟩
  rw [List.mem_singleton.1 ho]
  refine ⟨tell_ok h2.hid p1 (fun e => p3 (e.symm.trans hto.symm)) (msgB_key hm (.inl k)).1 (fun i hi => ?_), rfl, rfl, rfl⟩
  obtain ⟨a, b⟩ := (getI_some h3).1 hi
  exact ⟨(storeB_iff.1 h3).2.1 i a, b⟩
 ·exact ⟨Nat.zero_le 1, fun o ho => by cases ho⟩
theorem get_item_ok {x : S40} (h : nodeB x = true) (k : Int) : (getI x.f2 k).isSome = true → itemOk ((getI x.f2 k).getD z48) = true := by
 obtain ⟨_, _, h3, _⟩ := nodeB_iff.1 h
 intro hs
 cases e : getI x.f2 k with
 | none => rw [e] at hs; cases hs
 | some i => exact (storeB_iff.1 h3).2.1 i ((getI_some h3).1 e).1
theorem old_bounds {x : S40} (h : nodeB x = true) (k : Int) : 0 ≤ ((getI x.f2 k).getD z48).f1.f0 ∧ ((getI x.f2 k).getD z48).f1.f0 ≤ 65535 := by
 obtain ⟨_, _, h3, _⟩ := nodeB_iff.1 h
 cases e : getI x.f2 k with
 | none => exact ⟨Int.le_refl 0, by show (0 : Int) ≤ 65535; decide⟩
 | some i =>
   have := (storeB_iff.1 h3).2.1 i ((getI_some h3).1 e).1
   unfold itemOk itemB verB at this
   simp only [Bool.and_eq_true, decide_eq_true_eq] at this
   exact ⟨by show 0 ≤ i.f1.f0; omega, by show i.f1.f0 ≤ 65535; omega⟩
theorem putNd_ok {x : S40} {k v : Int} (h : nodeB x = true) (hu : x.f0 = true) (hk : placeB k = true) (hv : placeB v = true) : nodeB (putNd x k v) = true ∧ nid (putNd x k v) = nid x ∧ (putNd x k v).f1 = x.f1 ∧ (putNd x k v).f0 = true := by
 unfold putNd
 split
 ·rename_i hw
  obtain ⟨_, h2, h3, _⟩ := nodeB_iff.1 h
  unfold writeB at hw
  simp only [Bool.and_eq_true, decide_eq_true_eq, beq_iff_eq] at hw
  have hb := old_bounds h k
  have hio : itemOk (writeI x.f1.f0 x.f2 k v false) = true := by
   show (placeB k && placeB v && (decide (1 ≤ ((getI x.f2 k).getD z48).f1.f0 + 1 ∧ ((getI x.f2 k).getD z48).f1.f0 + 1 ≤ 65535) && placeB x.f1.f0) && (!false || v == 0)) = true
   have h65 : ((getI x.f2 k).getD z48).f1.f0 + 1 ≤ 65535 := hw.1
   rw [hk, hv, h2.hid, decide_eq_true ⟨by omega, h65⟩]
   rfl
  exact ⟨items_ok h hu (put_ok h3 hio hw.2), rfl, rfl, hu⟩
 ·exact ⟨h, rfl, rfl, hu⟩
theorem getN_ok {x : S40} {k : Int} (h : nodeB x = true) (hu : x.f0 = true) (hk : placeB k = true) : nodeB (getN x k) = true ∧ nid (getN x k) = nid x ∧ (getN x k).f1 = x.f1 := by
 unfold getN
 split
 ·exact ⟨note_ok h hu (toldB_note hk (get_item_ok h k)), rfl, rfl⟩
 ·exact ⟨h, rfl, rfl⟩
theorem getM_ok {x : S40} {k : Int} (h : nodeB x = true) (hk : placeB k = true) : (getM x k).length ≤ 1 ∧ ∀ m ∈ getM x k, msgB m = true ∧ m.f1 = nid x ∧ m.f2 ∈ namedN1 x ∧ m.f3 = [] := by
 obtain ⟨_, h2, h3, _⟩ := nodeB_iff.1 h
 unfold getM
 split
 ·exact ⟨Nat.zero_le 1, fun o ho => by cases ho⟩
 ·rename_i hne
  refine ⟨Nat.le_refl 1, fun o ho => ?_⟩
  rw [List.mem_singleton.1 ho]
  have hm := (own_mem h2 hk).resolve_left (by simpa using hne)
  obtain ⟨p, hp, e⟩ := mem_idsOf.1 hm
  exact ⟨ask_ok h2.hid (e ▸ (h2.p p hp).1) (fun e2 => hne (by rw [← e2]; simp)) hk, rfl, List.mem_append_left _ hm, rfl⟩
abbrev WS := List S40 × List S126
def OkW (s : WS) : Prop := mayB s.1 s.2 = true
def tickW (s : WS) (id : Int) : WS := match s.1[placeN s.1 id]? with
 | some x => if x.f0 then (s.1.set (placeN s.1 id) (stepN x), sendQ s.2 (stepM x)) else s
 | none => s
def hearW (s : WS) (ms : List S126) (m : S126) : WS := match s.1[placeN s.1 m.f2]? with
 | some x => if x.f0 then (s.1.set (placeN s.1 m.f2) (handN x m), sendQ ms (handM x m)) else (s.1, ms)
 | none => s
def deliverW (s : WS) (p : Nat) : WS := match s.2[p % s.2.length]? with
 | some m => hearW s (s.2.eraseIdx (p % s.2.length)) m
 | none => s
def putW (s : WS) (id k v : Int) : WS := match s.1[placeN s.1 id]? with
 | some x => (s.1.set (placeN s.1 id) (putNd x k v), s.2)
 | none => s
def getW (s : WS) (id k : Int) : WS := match s.1[placeN s.1 id]? with
 | some x => (s.1.set (placeN s.1 id) (getN x k), sendQ s.2 (getM x k))
 | none => s
theorem OkW.node {s : WS} (h : OkW s) {i : Nat} {x : S40} (hx : s.1[i]? = some x) : nodeB x = true ∧ isNode s.1 (nid x) = true ∧ ∀ y ∈ namedN1 x, isNode s.1 y = true := by
 obtain ⟨h1, h2, h3, h4⟩ := mayB_iff.1 h
 have hm := List.mem_of_getElem? hx
 exact ⟨(nodesB_iff.1 h1).2.2.1 x hm, isNode_iff.2 ⟨x, hm, rfl⟩, h3 x hm⟩
theorem place_some {s : WS} (h : OkW s) {id : Int} (hk : isNode s.1 id = true) : ∃ x, s.1[placeN s.1 id]? = some x ∧ nid x = id := by
 obtain ⟨hp, e⟩ := placeN_at (mayB_iff.1 h).1 hk
 exact ⟨_, List.getElem?_eq_getElem hp, e⟩
theorem tick_may {s : WS} (h : OkW s) {i : Nat} {x : S40} (hx : s.1[i]? = some x) (hu : x.f0 = true) : mayB (s.1.set i (stepN x)) s.2 = true ∧ mayB (s.1.set i (stepN x)) (stepM x) = true := by
 obtain ⟨h1, h2, h3⟩ := h.node hx
 obtain ⟨a1, a2, a3, a4⟩ := mayB_iff.1 h
 have hn : ∀ z ∈ namedN1 (stepN x), isNode s.1 z = true := fun z hz => h3 z ((stepV_named (nodeB_iff.1 h1).2.1).1 hz)
 obtain ⟨b1, b2⟩ := stepM_ok h1
 refine ⟨may_set h hx (stepN_ok h1 hu) rfl hn a2 a4, may_set h hx (stepN_ok h1 hu) rfl hn (queueB_iff.2 ⟨by omega, fun m hm => (b2 m hm).1⟩) fun m hm z hz => ?_⟩
 obtain ⟨_, c1, c2, c3⟩ := b2 m hm
 simp only [namedM1, List.mem_append, List.mem_cons, List.not_mem_nil, or_false] at hz
 rcases hz with (rfl | rfl) | hz
 ·rw [c1]; exact h2
 ·exact h3 _ c2
 ·exact h3 z (c3 z hz)
theorem hand_may {s : WS} (h : OkW s) {i : Nat} {x : S40} {m : S126} (hx : s.1[i]? = some x) (hu : x.f0 = true) (hm : m ∈ s.2) (hto : m.f2 = nid x) {ms : List S126} (hms : mayB s.1 ms = true) : mayB (s.1.set i (handN x m)) ms = true ∧ mayB (s.1.set i (handN x m)) (handM x m) = true := by
 obtain ⟨h1, h2, h3⟩ := h.node hx
 obtain ⟨a1, a2, a3, a4⟩ := mayB_iff.1 h
 have hmb := queueB_msg a2 hm
 obtain ⟨n1, n2, n3, n4⟩ := handN_ok h1 hu hmb hto
 have hn : ∀ z ∈ namedN1 (handN x m), isNode s.1 z = true := fun z hz => by
  rcases n4 z hz with h5 | h5 | h5
  ·exact h3 z h5
  ·rw [h5]; exact a4 m hm _ (by simp [namedM1])
  ·exact a4 m hm _ (by simp [namedM1, h5])
 obtain ⟨b1, b2⟩ := handM_ok h1 hmb hto
 obtain ⟨_, c2, _, c4⟩ := mayB_iff.1 hms
 refine ⟨may_set h hx n1 n2 hn c2 c4, may_set h hx n1 n2 hn (queueB_iff.2 ⟨by omega, fun o ho => (b2 o ho).1⟩) fun o ho z hz => ?_⟩
 obtain ⟨_, d1, d2, d3⟩ := b2 o ho
 simp only [namedM1, d3, List.append_nil, List.mem_cons, List.not_mem_nil, or_false] at hz
 rcases hz with rfl | rfl
 ·rw [d1]; exact h2
 ·rw [d2]; exact a4 m hm _ (by simp [namedM1])
theorem tickW_ok {s : WS} (h : OkW s) (id : Int) : OkW (tickW s id) := by
 unfold tickW
 split
 ·rename_i x hx
  split
  ·rename_i hu
   obtain ⟨h1, h2⟩ := tick_may h hx hu
   exact may_send h1 h2
  ·exact h
 ·exact h
theorem msg_node {s : WS} (h : OkW s) {m : S126} (hm : m ∈ s.2) : isNode s.1 m.f2 = true := (mayB_iff.1 h).2.2.2 m hm _ (by simp [namedM1])
theorem deliverW_ok {s : WS} (h : OkW s) (p : Nat) : OkW (deliverW s p) := by
 unfold deliverW
 split
 ·rename_i m hm
  have hmem := List.mem_of_getElem? hm
  unfold hearW
  split
  ·rename_i x hx
   obtain ⟨y, hy, e⟩ := place_some h (msg_node h hmem)
   rw [hx] at hy
   obtain rfl := Option.some.inj hy
   split
   ·rename_i hu
    obtain ⟨h1, h2⟩ := hand_may h hx hu hmem e.symm (may_erase h _)
    exact may_send h1 h2
   ·exact may_erase h _
  ·exact h
 ·exact h
theorem put_may {s : WS} (h : OkW s) {i : Nat} {x : S40} {k v : Int} (hx : s.1[i]? = some x) (hu : x.f0 = true) (hk : placeB k = true) (hv : placeB v = true) : mayB (s.1.set i (putNd x k v)) s.2 = true := by
 obtain ⟨h1, h2, h3⟩ := h.node hx
 obtain ⟨a1, a2, a3, a4⟩ := mayB_iff.1 h
 obtain ⟨n1, n2, n3, _⟩ := putNd_ok h1 hu hk hv
 exact may_set h hx n1 n2 (fun z hz => h3 z (by unfold namedN1 at hz ⊢; rwa [n3] at hz)) a2 a4
theorem get_may {s : WS} (h : OkW s) {i : Nat} {x : S40} {k : Int} (hx : s.1[i]? = some x) (hu : x.f0 = true) (hk : placeB k = true) : mayB (s.1.set i (getN x k)) s.2 = true ∧ mayB (s.1.set i (getN x k)) (getM x k) = true := by
 obtain ⟨h1, h2, h3⟩ := h.node hx
 obtain ⟨a1, a2, a3, a4⟩ := mayB_iff.1 h
 obtain ⟨n1, n2, n3⟩ := getN_ok h1 hu hk
 have hn : ∀ z ∈ namedN1 (getN x k), isNode s.1 z = true := fun z hz => h3 z (by unfold namedN1 at hz ⊢; rwa [n3] at hz)
 obtain ⟨b1, b2⟩ := getM_ok h1 hk
 refine ⟨may_set h hx n1 n2 hn a2 a4, may_set h hx n1 n2 hn (queueB_iff.2 ⟨by omega, fun m hm => (b2 m hm).1⟩) fun m hm z hz => ?_⟩
 obtain ⟨_, c1, c2, c3⟩ := b2 m hm
 simp only [namedM1, c3, List.append_nil, List.mem_cons, List.not_mem_nil, or_false] at hz
 rcases hz with rfl | rfl
 ·rw [c1]; exact h2
 ·exact h3 _ c2
theorem methTick_ {g ga gr n c d k f ta ne ce b : Nat} {a0 a1 a2 a3 a5 a6 : Int} {B C E : Option Addr} {ns : List S40} {ps : List S126} {w : World} {S1 S2 : Nat → Prop} [hg : Blk w g #[.slice (some ⟨gr, 0, none⟩) n c, .slice B 0 d, .slice C k f] 119] [ha : Blk w ga #[.int .i64 a0, .int .i64 a1, .int .i64 a2, .int .i64 a3, .slice E ne ce, .int .i64 a5, .int .i64 a6] ta] [h : Fr k40 40 w b S1 (some ⟨gr, 0, none⟩) n c ns] [q : Fr k126 126 w b S2 C k f ps] [av1 : Avoid g b S1] [av2 : Avoid g b S2] [av3 : Avoid gr b S2] [row : Row w gr] [ge1 : GeB b g] [ge2 : GeB b gr] [lb : LeB b w.heap.size] (hO : OkW (ns, ps)) (hk : isNode ns a1 = true) :
 Calls Tryz.prog 67 #[.pointer (some ⟨g, 0, none⟩), .pointer (some ⟨ga, 0, none⟩)] w fun e w' => e = .returned (.tuple #[]) ∧ DoerIs w' g b (tickW (ns, ps) a1).1 (tickW (ns, ps) a1).2 ∧ BbL b w w' := by
 have hO2 : mayB ns ps = true := hO
 have hs := (mayB_parts hO2).1
 obtain ⟨x, hx, _⟩ := place_some hO hk
 have hx' : ns[placeN ns a1]? = some x := hx
 cases hu : x.f0
 ·have e : tickW (ns, ps) a1 = (ns, ps) := by unfold tickW; simp only [hx', hu]; rfl
  rw [e]
  exact doerTickDown_ hs hk hx' hu
 ·have e : tickW (ns, ps) a1 = (ns.set (placeN ns a1) (stepN x), sendQ ps (stepM x)) := by unfold tickW; simp only [hx', hu]; rfl
  rw [e]
  obtain ⟨h1, h2⟩ := tick_may hO hx hu
  refine (doerTick_ hs hk ⟨x, hx', hu, nodesSz_of (mayB_parts h1).1, h1, h2⟩).mono ?_
  rintro e w' ⟨y, hy, rfl, hD, hB⟩
  rw [hx'] at hy
  obtain rfl := Option.some.inj hy
  exact ⟨rfl, hD, hB⟩
theorem methPut_ {g ga gr n c d k f ta ne ce b : Nat} {a0 a1 a2 a3 a5 a6 : Int} {B C E : Option Addr} {ns : List S40} {ps : List S126} {w : World} {S1 S2 : Nat → Prop} [hg : Blk w g #[.slice (some ⟨gr, 0, none⟩) n c, .slice B 0 d, .slice C k f] 119] [ha : Blk w ga #[.int .i64 a0, .int .i64 a1, .int .i64 a2, .int .i64 a3, .slice E ne ce, .int .i64 a5, .int .i64 a6] ta] [h : Fr k40 40 w b S1 (some ⟨gr, 0, none⟩) n c ns] [q : Fr k126 126 w b S2 C k f ps] [av1 : Avoid g b S1] [av2 : Avoid g b S2] [av3 : Avoid gr b S2] [row : Row w gr] [ge1 : GeB b g] [ge2 : GeB b gr] [lb : LeB b w.heap.size] (hO : OkW (ns, ps)) (hk : isNode ns a1 = true) (hup : ∀ x ∈ ns, x.f0 = true) (p5 : placeB a5 = true) (p6 : placeB a6 = true) :
 Calls Tryz.prog 75 #[.pointer (some ⟨g, 0, none⟩), .pointer (some ⟨ga, 0, none⟩)] w fun e w' => e = .returned (.tuple #[]) ∧ DoerIs w' g b (putW (ns, ps) a1 a5 a6).1 (putW (ns, ps) a1 a5 a6).2 ∧ BbL b w w' := by
 have hO2 : mayB ns ps = true := hO
 have hs := (mayB_parts hO2).1
 obtain ⟨x, hx, _⟩ := place_some hO hk
 have hx' : ns[placeN ns a1]? = some x := hx
 have e : putW (ns, ps) a1 a5 a6 = (ns.set (placeN ns a1) (putNd x a5 a6), ps) := by unfold putW; simp only [hx']
 rw [e]
 have hb := old_bounds (hO.node hx).1 a5
 exact doerPut_ hs hk hx' (hup x (List.mem_of_getElem? hx')) p5 p6 hb.1 hb.2
theorem methGet_ {g ga gr n c d k f ta ne ce b : Nat} {a0 a1 a2 a3 a5 a6 : Int} {B C E : Option Addr} {ns : List S40} {ps : List S126} {w : World} {S1 S2 : Nat → Prop} [hg : Blk w g #[.slice (some ⟨gr, 0, none⟩) n c, .slice B 0 d, .slice C k f] 119] [ha : Blk w ga #[.int .i64 a0, .int .i64 a1, .int .i64 a2, .int .i64 a3, .slice E ne ce, .int .i64 a5, .int .i64 a6] ta] [h : Fr k40 40 w b S1 (some ⟨gr, 0, none⟩) n c ns] [q : Fr k126 126 w b S2 C k f ps] [av1 : Avoid g b S1] [av2 : Avoid g b S2] [av3 : Avoid gr b S2] [row : Row w gr] [ge1 : GeB b g] [ge2 : GeB b gr] [lb : LeB b w.heap.size] (hO : OkW (ns, ps)) (hk : isNode ns a1 = true) (hup : ∀ x ∈ ns, x.f0 = true) (p5 : placeB a5 = true) :
 Calls Tryz.prog 77 #[.pointer (some ⟨g, 0, none⟩), .pointer (some ⟨ga, 0, none⟩)] w fun e w' => e = .returned (.tuple #[]) ∧ DoerIs w' g b (getW (ns, ps) a1 a5).1 (getW (ns, ps) a1 a5).2 ∧ BbL b w w' := by
 have hO2 : mayB ns ps = true := hO
 have hs := (mayB_parts hO2).1
 obtain ⟨x, hx, _⟩ := place_some hO hk
 have hx' : ns[placeN ns a1]? = some x := hx
 have hu := hup x (List.mem_of_getElem? hx')
 have e : getW (ns, ps) a1 a5 = (ns.set (placeN ns a1) (getN x a5), sendQ ps (getM x a5)) := by unfold getW; simp only [hx']
 rw [e]
 obtain ⟨h1, h2⟩ := get_may hO hx hu p5
 exact doerGet_ hs hk hx' hu p5 (nodesSz_of (mayB_parts h1).1) h1 h2
theorem methDeliver_ {g ga gr n c d k f ta ne ce b p : Nat} {a0 a1 a2 a5 a6 : Int} {B C E : Option Addr} {ns : List S40} {ps : List S126} {w : World} {S1 S2 : Nat → Prop} [hg : Blk w g #[.slice (some ⟨gr, 0, none⟩) n c, .slice B 0 d, .slice C k f] 119] [ha : Blk w ga #[.int .i64 a0, .int .i64 a1, .int .i64 a2, .int .i64 (p : Nat), .slice E ne ce, .int .i64 a5, .int .i64 a6] ta] [h : Fr k40 40 w b S1 (some ⟨gr, 0, none⟩) n c ns] [q : Fr k126 126 w b S2 C k f ps] [av1 : Avoid g b S1] [av2 : Avoid g b S2] [av3 : Avoid gr b S2] [row : Row w gr] [ge1 : GeB b g] [ge2 : GeB b gr] [lb : LeB b w.heap.size] (hO : OkW (ns, ps))  :
 Calls Tryz.prog 68 #[.pointer (some ⟨g, 0, none⟩), .pointer (some ⟨ga, 0, none⟩)] w fun e w' => e = .returned (.tuple #[]) ∧ DoerIs w' g b (deliverW (ns, ps) p).1 (deliverW (ns, ps) p).2 ∧ BbL b w w' := by
 have hO2 : mayB ns ps = true := hO
 have hs := (mayB_parts hO2).1
 have hkl := q.len
 by_cases h0 : k = 0
 ·have hps : ps = [] := List.eq_nil_of_length_eq_zero (hkl.trans h0)
  subst h0 hps
  exact doerDeliver0_
 have hk0 : 0 < k := by omega
 have hlt : p % k < ps.length := by rw [hkl]; exact Nat.mod_lt _ hk0
 have hm : ps[p % k]? = some ps[p % k] := List.getElem?_eq_getElem hlt
 have hmem : ps[p % k] ∈ ps := List.getElem_mem hlt
 generalize ps[p % k] = mo at hm hmem
 have hnode := msg_node hO hmem
 obtain ⟨x, hx, hid⟩ := place_some hO hnode
 have hx' : ns[placeN ns mo.f2]? = some x := hx
 have e1 : deliverW (ns, ps) p = hearW (ns, ps) (ps.eraseIdx (p % k)) mo := by unfold deliverW; simp only [hkl, hm]
 rw [e1]
 cases hu : x.f0
 ·have e : hearW (ns, ps) (ps.eraseIdx (p % k)) mo = (ns, ps.eraseIdx (p % k)) := by unfold hearW; simp only [hx', hu]; rfl
  rw [e]
  exact doerDeliverDown_ hO2 hk0 hm hnode hx' hu
 ·have e : hearW (ns, ps) (ps.eraseIdx (p % k)) mo = (ns.set (placeN ns mo.f2) (handN x mo), sendQ (ps.eraseIdx (p % k)) (handM x mo)) := by unfold hearW; simp only [hx', hu]; rfl
  rw [e]
  obtain ⟨h1, h2⟩ := hand_may hO hx hu hmem hid.symm (may_erase hO2 (p % k))
  exact doerDeliver_ hO2 hk0 hm hnode hx' hu (nodesSz_of (mayB_parts h1).1) h1 h2
section
attribute [local go_sem] cell_tc2
set_option maxRecDepth 100000 in
set_option maxHeartbeats 4000000 in
theorem mayPick1_ {g ga t ta ne ce n c m d k f : Nat} {a1 a2 a3 a5 a6 : Int} {A B C E : Option Addr} {l : List S40} {w : World} [hg : Blk w g #[.slice A n c, .slice B m d, .slice C k f] t] [ha : Blk w ga #[.int .i64 1, .int .i64 a1, .int .i64 a2, .int .i64 a3, .slice E ne ce, .int .i64 a5, .int .i64 a6] ta] [h : Sr k40 w A n c l] (hs : nodesB l = true)  :
 Calls Tryz.prog 66 #[.pointer (some ⟨g, 0, none⟩), .pointer (some ⟨ga, 0, none⟩)] w fun e w' => e = .returned (.bool (decide (0 ≤ a3) && decide (a3 ≤ 65535))) ∧ BelL w w' := by
 have s1 := sr_l h
 have k1 : BlkL w g #[.slice A n c, .slice B m d, .slice C k f] t := blkL
 have k2 : BlkL w ga #[.int .i64 1, .int .i64 a1, .int .i64 a2, .int .i64 a3, .slice E ne ce, .int .i64 a5, .int .i64 a6] ta := blkL
 clear hg ha h
 cases e0 : decide (0 ≤ a3)
 ·go_enter Tryz.func66, Tryz.ntmps66
  go_wp2_with (first | (with_reducible refine box_tc rfl (N := 2) rfl (cs := #[.pointer (some ⟨g, 0, none⟩)]) (t := 116) ?hr ?_; (case hr => go_simp <;> rfl); intro g2 wg2 _ _ _))
  go_ret
  exact ⟨rfl, belL⟩
 ·go_enter Tryz.func66, Tryz.ntmps66
  go_wp2_with (first | (with_reducible refine box_tc rfl (N := 2) rfl (cs := #[.pointer (some ⟨g, 0, none⟩)]) (t := 116) ?hr ?_; (case hr => go_simp <;> rfl); intro g2 wg2 _ _ _))
  go_ret
  exact ⟨rfl, belL⟩
set_option maxRecDepth 100000 in
set_option maxHeartbeats 4000000 in
theorem mayNode0_ {g ga t ta ne ce n c m d k f : Nat} {a1 a2 a3 a5 a6 : Int} {A B C E : Option Addr} {l : List S40} {w : World} [hg : Blk w g #[.slice A n c, .slice B m d, .slice C k f] t] [ha : Blk w ga #[.int .i64 0, .int .i64 a1, .int .i64 a2, .int .i64 a3, .slice E ne ce, .int .i64 a5, .int .i64 a6] ta] [h : Sr k40 w A n c l] (hs : nodesB l = true)  :
 Calls Tryz.prog 66 #[.pointer (some ⟨g, 0, none⟩), .pointer (some ⟨ga, 0, none⟩)] w fun e w' => e = .returned (.bool (isNode l a1)) ∧ BelL w w' := by
 have s1 := sr_l h
 have k1 : BlkL w g #[.slice A n c, .slice B m d, .slice C k f] t := blkL
 have k2 : BlkL w ga #[.int .i64 0, .int .i64 a1, .int .i64 a2, .int .i64 a3, .slice E ne ce, .int .i64 a5, .int .i64 a6] ta := blkL
 clear hg ha h
 cases e0 : isNode l a1
 all_goals
  go_enter Tryz.func66, Tryz.ntmps66
  go_upto_region 6 with (first | (with_reducible refine box_tc rfl (N := 2) rfl (cs := #[.pointer (some ⟨g, 0, none⟩)]) (t := 116) ?hr ?_; (case hr => go_simp <;> rfl); intro g2 wg2 _ _ _))
  refine wp_letter fun w6 hb6 => ?_
  go_region_held3 (fun w' => BelL w6 w') (first | exact belL) (first | (go_at_call 120; (with_reducible refine cM (there_ hs) ?_); rintro e wt ⟨rfl, hb⟩))
  all_goals
   go_wp2
   go_ret
   exact ⟨rfl, belL⟩
set_option maxRecDepth 100000 in
set_option maxHeartbeats 4000000 in
theorem mayPut_ {g ga t ta ne ce n c m d k f : Nat} {a1 a2 a3 a5 a6 : Int} {A B C E : Option Addr} {l : List S40} {w : World} [hg : Blk w g #[.slice A n c, .slice B m d, .slice C k f] t] [ha : Blk w ga #[.int .i64 8, .int .i64 a1, .int .i64 a2, .int .i64 a3, .slice E ne ce, .int .i64 a5, .int .i64 a6] ta] [h : Sr k40 w A n c l] (hs : nodesB l = true) (e0 : isNode l a1 = true) (p5 : placeB a5 = true) (p6 : placeB a6 = true) :
 Calls Tryz.prog 66 #[.pointer (some ⟨g, 0, none⟩), .pointer (some ⟨ga, 0, none⟩)] w fun e w' => e = .returned (.bool (true)) ∧ BelL w w' := by
 have s1 := sr_l h
 have k1 : BlkL w g #[.slice A n c, .slice B m d, .slice C k f] t := blkL
 have k2 : BlkL w ga #[.int .i64 8, .int .i64 a1, .int .i64 a2, .int .i64 a3, .slice E ne ce, .int .i64 a5, .int .i64 a6] ta := blkL
 clear hg ha h
 go_enter Tryz.func66, Tryz.ntmps66
 go_upto_region 6 with (first | (with_reducible refine box_tc rfl (N := 2) rfl (cs := #[.pointer (some ⟨g, 0, none⟩)]) (t := 116) ?hr ?_; (case hr => go_simp <;> rfl); intro g2 wg2 _ _ _))
 refine wp_letter fun w6 hb6 => ?_
 go_region_held3 (fun w' => BelL w6 w') (first | exact belL) (first | (go_at_call 120; (with_reducible refine cM (there_ hs) ?_); rintro e wt ⟨rfl, hb⟩))
 all_goals
  go_wp2_with (first | (go_at_call 106; first | ((with_reducible refine cM (byte a5 _) ?_); rintro e w' ⟨rfl, ⟨nd, rfl⟩⟩; rw [p5]) | ((with_reducible refine cM (byte a6 _) ?_); rintro e w' ⟨rfl, ⟨nd, rfl⟩⟩; rw [p6])))
  go_ret
  exact ⟨rfl, belL⟩
set_option maxRecDepth 100000 in
set_option maxHeartbeats 4000000 in
theorem mayGet_ {g ga t ta ne ce n c m d k f : Nat} {a1 a2 a3 a5 a6 : Int} {A B C E : Option Addr} {l : List S40} {w : World} [hg : Blk w g #[.slice A n c, .slice B m d, .slice C k f] t] [ha : Blk w ga #[.int .i64 10, .int .i64 a1, .int .i64 a2, .int .i64 a3, .slice E ne ce, .int .i64 a5, .int .i64 a6] ta] [h : Sr k40 w A n c l] (hs : nodesB l = true) (e0 : isNode l a1 = true) (p5 : placeB a5 = true) :
 Calls Tryz.prog 66 #[.pointer (some ⟨g, 0, none⟩), .pointer (some ⟨ga, 0, none⟩)] w fun e w' => e = .returned (.bool (true)) ∧ BelL w w' := by
 have s1 := sr_l h
 have k1 : BlkL w g #[.slice A n c, .slice B m d, .slice C k f] t := blkL
 have k2 : BlkL w ga #[.int .i64 10, .int .i64 a1, .int .i64 a2, .int .i64 a3, .slice E ne ce, .int .i64 a5, .int .i64 a6] ta := blkL
 clear hg ha h
 go_enter Tryz.func66, Tryz.ntmps66
 go_upto_region 6 with (first | (with_reducible refine box_tc rfl (N := 2) rfl (cs := #[.pointer (some ⟨g, 0, none⟩)]) (t := 116) ?hr ?_; (case hr => go_simp <;> rfl); intro g2 wg2 _ _ _))
 refine wp_letter fun w6 hb6 => ?_
 go_region_held3 (fun w' => BelL w6 w') (first | exact belL) (first | (go_at_call 120; (with_reducible refine cM (there_ hs) ?_); rintro e wt ⟨rfl, hb⟩))
 all_goals
  go_wp2_with (first | (go_at_call 106; first | ((with_reducible refine cM (byte a5 _) ?_); rintro e w' ⟨rfl, ⟨nd, rfl⟩⟩; rw [p5])))
  go_ret
  exact ⟨rfl, belL⟩
end
section
attribute [local go_sem] cell_tc2 run_store_fn
set_option maxRecDepth 100000 in
set_option maxHeartbeats 8000000 in
theorem doTick_ {ne ce n c d k f : Nat} {a1 a2 a3 a5 a6 : Int} {A B C E : Option Addr} {ns : List S40} {ps : List S126} {w : World} [h : Sr k40 w A n c ns] [q : Sr k126 w C k f ps] (hO : OkW (ns, ps)) (hk : isNode ns a1 = true) :
 Calls Tryz.prog 24 #[.agg #[.slice A n c, .slice B 0 d, .slice C k f], .agg #[.int .i64 0, .int .i64 a1, .int .i64 a2, .int .i64 a3, .slice E ne ce, .int .i64 a5, .int .i64 a6]] w fun e w' => ∃ v, e = .returned (.tuple #[v, .int .i64 0]) ∧ WorldR w' w.heap.size v (tickW (ns, ps) a1).1 (tickW (ns, ps) a1).2 ∧ BelL w w' := by
 obtain rfl := h.len
 obtain rfl := q.len
 have s1 := sr_l h
 have s2 := sr_l q
 have hO2 : mayB ns ps = true := hO
 have hs := (mayB_parts hO2).1
 have hq := (mayB_parts hO2).2
 have hz := nodesSz_of hs
 clear h q
 generalize hy : tickW (ns, ps) a1 = y
 have HY := Aside0.mk hy
 clear hy
 go_enter Tryz.func24, Tryz.ntmps24
 go_upto_region 7 with (first | (with_reducible refine box_tc rfl (N := 2) rfl (cs := #[.slice A ns.length c, .slice B 0 d, .slice C ps.length f]) (t := 61) ?hr ?_; (case hr => go_simp <;> rfl); intro g2 wg2 _ _ _) | (with_reducible refine box_tc rfl (N := 3) rfl (cs := #[.int .i64 0, .int .i64 a1, .int .i64 a2, .int .i64 a3, .slice E ne ce, .int .i64 a5, .int .i64 a6]) (t := 69) ?hr ?_; (case hr => go_simp <;> rfl); intro g3 wg3 _ _ _) | (with_reducible refine box_tc rfl (N := 4) rfl (cs := #[.slice none 0 0, .slice none 0 0, .slice none 0 0]) (t := 61) ?hr ?_; (case hr => go_simp <;> rfl); intro g4 wg4 _ _ _) | (with_reducible refine box_tc rfl (N := 15) rfl (cs := #[.slice (some ⟨gr, 0, none⟩) ns.length c1, .slice B1 0 d1, .slice C1 ps.length f1]) (t := 119) ?hr ?_; (case hr => go_simp <;> rfl); intro g15 wg15 _ _ _) | (with_reducible refine box_tc rfl (N := 7) rfl (cs := #[.nilFunc, .nilFunc, .nilFunc, .nilFunc, .nilFunc, .nilFunc, .nilFunc, .nilFunc, .nilFunc, .nilFunc, .nilFunc]) (t := 123) ?hr ?_; (case hr => go_simp <;> rfl); intro g7 wg7 _ _ _) | (go_at_call 33; (with_reducible refine cM (worldMay_ hz) ?_); rintro e wb ⟨rfl, hb1⟩; rw [hO2]) | (go_at_call 65; (with_reducible refine cM (worldCopyS_ hs hq) ?_); rintro e w1 ⟨v1, rfl, ⟨gr, c1, B1, d1, C1, f1, rfl, hF1, hF2, hrow, hgr⟩, hb2⟩; have hge := GeB.mk hgr) | (go_at_call 66; (with_reducible refine cM (mayNode0_ hs) ?_); rintro e wy ⟨rfl, hby⟩; rw [hk]))
 refine wp_letter ?_
 intro w7 hb7
 go_wp2_with (first | (go_at_call 67; (with_reducible refine cM (methTick_ hO hk) ?_); rw [HY.out]; rintro e w8 ⟨rfl, ⟨A7, c7, B7, d7, C7, f7, hB7, hF7, hG7⟩, hbb⟩))
 exact bodyPost_ret (v := .tuple #[.agg #[.slice A7 y.1.length c7, .slice B7 0 d7, .slice C7 y.2.length f7], .int .i64 0]) (by simp [results, Tryz.results24, go_sem]) rfl ⟨_, rfl, ⟨_, _, _, _, _, _, rfl, frl, frl⟩, belL⟩
set_option maxRecDepth 100000 in
set_option maxHeartbeats 8000000 in
theorem doDeliver_ {ne ce n c d k f : Nat} {p : Nat} {a1 a2 a5 a6 : Int} {A B C E : Option Addr} {ns : List S40} {ps : List S126} {w : World} [h : Sr k40 w A n c ns] [q : Sr k126 w C k f ps] (hO : OkW (ns, ps)) (hk : (decide (0 ≤ ((p : Nat) : Int)) && decide (((p : Nat) : Int) ≤ 65535)) = true) :
 Calls Tryz.prog 24 #[.agg #[.slice A n c, .slice B 0 d, .slice C k f], .agg #[.int .i64 1, .int .i64 a1, .int .i64 a2, .int .i64 (p : Nat), .slice E ne ce, .int .i64 a5, .int .i64 a6]] w fun e w' => ∃ v, e = .returned (.tuple #[v, .int .i64 0]) ∧ WorldR w' w.heap.size v (deliverW (ns, ps) p).1 (deliverW (ns, ps) p).2 ∧ BelL w w' := by
 obtain rfl := h.len
 obtain rfl := q.len
 have s1 := sr_l h
 have s2 := sr_l q
 have hO2 : mayB ns ps = true := hO
 have hs := (mayB_parts hO2).1
 have hq := (mayB_parts hO2).2
 have hz := nodesSz_of hs
 clear h q
 generalize hy : deliverW (ns, ps) p = y
 have HY := Aside0.mk hy
 clear hy
 go_enter Tryz.func24, Tryz.ntmps24
 go_upto_region 7 with (first | (with_reducible refine box_tc rfl (N := 2) rfl (cs := #[.slice A ns.length c, .slice B 0 d, .slice C ps.length f]) (t := 61) ?hr ?_; (case hr => go_simp <;> rfl); intro g2 wg2 _ _ _) | (with_reducible refine box_tc rfl (N := 3) rfl (cs := #[.int .i64 1, .int .i64 a1, .int .i64 a2, .int .i64 (p : Nat), .slice E ne ce, .int .i64 a5, .int .i64 a6]) (t := 69) ?hr ?_; (case hr => go_simp <;> rfl); intro g3 wg3 _ _ _) | (with_reducible refine box_tc rfl (N := 4) rfl (cs := #[.slice none 0 0, .slice none 0 0, .slice none 0 0]) (t := 61) ?hr ?_; (case hr => go_simp <;> rfl); intro g4 wg4 _ _ _) | (with_reducible refine box_tc rfl (N := 15) rfl (cs := #[.slice (some ⟨gr, 0, none⟩) ns.length c1, .slice B1 0 d1, .slice C1 ps.length f1]) (t := 119) ?hr ?_; (case hr => go_simp <;> rfl); intro g15 wg15 _ _ _) | (with_reducible refine box_tc rfl (N := 7) rfl (cs := #[.nilFunc, .nilFunc, .nilFunc, .nilFunc, .nilFunc, .nilFunc, .nilFunc, .nilFunc, .nilFunc, .nilFunc, .nilFunc]) (t := 123) ?hr ?_; (case hr => go_simp <;> rfl); intro g7 wg7 _ _ _) | (go_at_call 33; (with_reducible refine cM (worldMay_ hz) ?_); rintro e wb ⟨rfl, hb1⟩; rw [hO2]) | (go_at_call 65; (with_reducible refine cM (worldCopyS_ hs hq) ?_); rintro e w1 ⟨v1, rfl, ⟨gr, c1, B1, d1, C1, f1, rfl, hF1, hF2, hrow, hgr⟩, hb2⟩; have hge := GeB.mk hgr) | (go_at_call 66; (with_reducible refine cM (mayPick1_ hs) ?_); rintro e wy ⟨rfl, hby⟩; rw [hk]))
 refine wp_letter ?_
 intro w7 hb7
 go_wp2_with (first | (go_at_call 68; (with_reducible refine cM (methDeliver_ hO) ?_); rw [HY.out]; rintro e w8 ⟨rfl, ⟨A7, c7, B7, d7, C7, f7, hB7, hF7, hG7⟩, hbb⟩))
 exact bodyPost_ret (v := .tuple #[.agg #[.slice A7 y.1.length c7, .slice B7 0 d7, .slice C7 y.2.length f7], .int .i64 0]) (by simp [results, Tryz.results24, go_sem]) rfl ⟨_, rfl, ⟨_, _, _, _, _, _, rfl, frl, frl⟩, belL⟩
set_option maxRecDepth 100000 in
set_option maxHeartbeats 8000000 in
theorem doPut_ {ne ce n c d k f : Nat} {a1 a2 a3 a5 a6 : Int} {A B C E : Option Addr} {ns : List S40} {ps : List S126} {w : World} [h : Sr k40 w A n c ns] [q : Sr k126 w C k f ps] (hO : OkW (ns, ps)) (hk : isNode ns a1 = true) (hup : ∀ x ∈ ns, x.f0 = true) (p5 : placeB a5 = true) (p6 : placeB a6 = true) :
 Calls Tryz.prog 24 #[.agg #[.slice A n c, .slice B 0 d, .slice C k f], .agg #[.int .i64 8, .int .i64 a1, .int .i64 a2, .int .i64 a3, .slice E ne ce, .int .i64 a5, .int .i64 a6]] w fun e w' => ∃ v, e = .returned (.tuple #[v, .int .i64 0]) ∧ WorldR w' w.heap.size v (putW (ns, ps) a1 a5 a6).1 (putW (ns, ps) a1 a5 a6).2 ∧ BelL w w' := by
 obtain rfl := h.len
 obtain rfl := q.len
 have s1 := sr_l h
 have s2 := sr_l q
 have hO2 : mayB ns ps = true := hO
 have hs := (mayB_parts hO2).1
 have hq := (mayB_parts hO2).2
 have hz := nodesSz_of hs
 clear h q
 generalize hy : putW (ns, ps) a1 a5 a6 = y
 have HY := Aside0.mk hy
 clear hy
 go_enter Tryz.func24, Tryz.ntmps24
 go_upto_region 7 with (first | (with_reducible refine box_tc rfl (N := 2) rfl (cs := #[.slice A ns.length c, .slice B 0 d, .slice C ps.length f]) (t := 61) ?hr ?_; (case hr => go_simp <;> rfl); intro g2 wg2 _ _ _) | (with_reducible refine box_tc rfl (N := 3) rfl (cs := #[.int .i64 8, .int .i64 a1, .int .i64 a2, .int .i64 a3, .slice E ne ce, .int .i64 a5, .int .i64 a6]) (t := 69) ?hr ?_; (case hr => go_simp <;> rfl); intro g3 wg3 _ _ _) | (with_reducible refine box_tc rfl (N := 4) rfl (cs := #[.slice none 0 0, .slice none 0 0, .slice none 0 0]) (t := 61) ?hr ?_; (case hr => go_simp <;> rfl); intro g4 wg4 _ _ _) | (with_reducible refine box_tc rfl (N := 15) rfl (cs := #[.slice (some ⟨gr, 0, none⟩) ns.length c1, .slice B1 0 d1, .slice C1 ps.length f1]) (t := 119) ?hr ?_; (case hr => go_simp <;> rfl); intro g15 wg15 _ _ _) | (with_reducible refine box_tc rfl (N := 7) rfl (cs := #[.nilFunc, .nilFunc, .nilFunc, .nilFunc, .nilFunc, .nilFunc, .nilFunc, .nilFunc, .nilFunc, .nilFunc, .nilFunc]) (t := 123) ?hr ?_; (case hr => go_simp <;> rfl); intro g7 wg7 _ _ _) | (go_at_call 33; (with_reducible refine cM (worldMay_ hz) ?_); rintro e wb ⟨rfl, hb1⟩; rw [hO2]) | (go_at_call 65; (with_reducible refine cM (worldCopyS_ hs hq) ?_); rintro e w1 ⟨v1, rfl, ⟨gr, c1, B1, d1, C1, f1, rfl, hF1, hF2, hrow, hgr⟩, hb2⟩; have hge := GeB.mk hgr) | (go_at_call 66; (with_reducible refine cM (mayPut_ hs hk p5 p6) ?_); rintro e wy ⟨rfl, hb⟩))
 refine wp_letter ?_
 intro w7 hb7
 go_wp2_with (first | (go_at_call 75; (with_reducible refine cM (methPut_ hO hk hup p5 p6) ?_); rw [HY.out]; rintro e w8 ⟨rfl, ⟨A7, c7, B7, d7, C7, f7, hB7, hF7, hG7⟩, hbb⟩))
 exact bodyPost_ret (v := .tuple #[.agg #[.slice A7 y.1.length c7, .slice B7 0 d7, .slice C7 y.2.length f7], .int .i64 0]) (by simp [results, Tryz.results24, go_sem]) rfl ⟨_, rfl, ⟨_, _, _, _, _, _, rfl, frl, frl⟩, belL⟩
set_option maxRecDepth 100000 in
set_option maxHeartbeats 8000000 in
theorem doGet_ {ne ce n c d k f : Nat} {a1 a2 a3 a5 a6 : Int} {A B C E : Option Addr} {ns : List S40} {ps : List S126} {w : World} [h : Sr k40 w A n c ns] [q : Sr k126 w C k f ps] (hO : OkW (ns, ps)) (hk : isNode ns a1 = true) (hup : ∀ x ∈ ns, x.f0 = true) (p5 : placeB a5 = true) :
 Calls Tryz.prog 24 #[.agg #[.slice A n c, .slice B 0 d, .slice C k f], .agg #[.int .i64 10, .int .i64 a1, .int .i64 a2, .int .i64 a3, .slice E ne ce, .int .i64 a5, .int .i64 a6]] w fun e w' => ∃ v, e = .returned (.tuple #[v, .int .i64 0]) ∧ WorldR w' w.heap.size v (getW (ns, ps) a1 a5).1 (getW (ns, ps) a1 a5).2 ∧ BelL w w' := by
 obtain rfl := h.len
 obtain rfl := q.len
 have s1 := sr_l h
 have s2 := sr_l q
 have hO2 : mayB ns ps = true := hO
 have hs := (mayB_parts hO2).1
 have hq := (mayB_parts hO2).2
 have hz := nodesSz_of hs
 clear h q
 generalize hy : getW (ns, ps) a1 a5 = y
 have HY := Aside0.mk hy
 clear hy
 go_enter Tryz.func24, Tryz.ntmps24
 go_upto_region 7 with (first | (with_reducible refine box_tc rfl (N := 2) rfl (cs := #[.slice A ns.length c, .slice B 0 d, .slice C ps.length f]) (t := 61) ?hr ?_; (case hr => go_simp <;> rfl); intro g2 wg2 _ _ _) | (with_reducible refine box_tc rfl (N := 3) rfl (cs := #[.int .i64 10, .int .i64 a1, .int .i64 a2, .int .i64 a3, .slice E ne ce, .int .i64 a5, .int .i64 a6]) (t := 69) ?hr ?_; (case hr => go_simp <;> rfl); intro g3 wg3 _ _ _) | (with_reducible refine box_tc rfl (N := 4) rfl (cs := #[.slice none 0 0, .slice none 0 0, .slice none 0 0]) (t := 61) ?hr ?_; (case hr => go_simp <;> rfl); intro g4 wg4 _ _ _) | (with_reducible refine box_tc rfl (N := 15) rfl (cs := #[.slice (some ⟨gr, 0, none⟩) ns.length c1, .slice B1 0 d1, .slice C1 ps.length f1]) (t := 119) ?hr ?_; (case hr => go_simp <;> rfl); intro g15 wg15 _ _ _) | (with_reducible refine box_tc rfl (N := 7) rfl (cs := #[.nilFunc, .nilFunc, .nilFunc, .nilFunc, .nilFunc, .nilFunc, .nilFunc, .nilFunc, .nilFunc, .nilFunc, .nilFunc]) (t := 123) ?hr ?_; (case hr => go_simp <;> rfl); intro g7 wg7 _ _ _) | (go_at_call 33; (with_reducible refine cM (worldMay_ hz) ?_); rintro e wb ⟨rfl, hb1⟩; rw [hO2]) | (go_at_call 65; (with_reducible refine cM (worldCopyS_ hs hq) ?_); rintro e w1 ⟨v1, rfl, ⟨gr, c1, B1, d1, C1, f1, rfl, hF1, hF2, hrow, hgr⟩, hb2⟩; have hge := GeB.mk hgr) | (go_at_call 66; (with_reducible refine cM (mayGet_ hs hk p5) ?_); rintro e wy ⟨rfl, hb⟩))
 refine wp_letter ?_
 intro w7 hb7
 go_wp2_with (first | (go_at_call 77; (with_reducible refine cM (methGet_ hO hk hup p5) ?_); rw [HY.out]; rintro e w8 ⟨rfl, ⟨A7, c7, B7, d7, C7, f7, hB7, hF7, hG7⟩, hbb⟩))
 exact bodyPost_ret (v := .tuple #[.agg #[.slice A7 y.1.length c7, .slice B7 0 d7, .slice C7 y.2.length f7], .int .i64 0]) (by simp [results, Tryz.results24, go_sem]) rfl ⟨_, rfl, ⟨_, _, _, _, _, _, rfl, frl, frl⟩, belL⟩
end
section
attribute [local go_sem] cell_tc2
def deliverAll : Nat → WS → WS
 | 0, s => s
 | n + 1, s => if s.2.length = 0 then s else deliverAll n (deliverW s 0)
theorem deliverAll_ok : ∀ (n : Nat) {s : WS}, OkW s → OkW (deliverAll n s)
 | 0, _, h => h
 | n + 1, s, h => by
   unfold deliverAll
   split
   ·exact h
   ·exact deliverAll_ok n (deliverW_ok h 0)
theorem deliverAll_nil (n : Nat) {s : WS} (h : s.2.length = 0) : deliverAll n s = s := by cases n <;> simp [deliverAll, h]
theorem deliverAll_next (n : Nat) {s : WS} (h : 0 < s.2.length) : deliverAll (n + 1) s = deliverAll n (deliverW s 0) := by simp only [deliverAll]; rw [if_neg (by omega)]
theorem doDeliver0_ {n c d k f : Nat} {A B C : Option Addr} {ns : List S40} {ps : List S126} {w : World} [h : Sr k40 w A n c ns] [q : Sr k126 w C k f ps] (hO : OkW (ns, ps)) :
 Calls Tryz.prog 24 #[.agg #[.slice A n c, .slice B 0 d, .slice C k f], .agg #[.int .i64 1, .int .i64 0, .int .i64 0, .int .i64 0, .slice none 0 0, .int .i64 0, .int .i64 0]] w fun e w' => ∃ v, e = .returned (.tuple #[v, .int .i64 0]) ∧ WorldR w' w.heap.size v (deliverW (ns, ps) 0).1 (deliverW (ns, ps) 0).2 ∧ BelL w w' :=
 doDeliver_ (p := 0) hO rfl
set_option maxRecDepth 100000 in
set_option maxHeartbeats 8000000 in
theorem deliver_ {n c d k f : Nat} {A B C : Option Addr} {ns : List S40} {ps : List S126} {w : World} {b : Nat} {S1 S2 : Nat → Prop} [h : Fr k40 40 w b S1 A n c ns] [q : Fr k126 126 w b S2 C k f ps] [lb : LeB b w.heap.size] (hO : OkW (ns, ps)) :
 Calls Tryz.prog 81 #[.agg #[.slice A n c, .slice B 0 d, .slice C k f]] w fun e w' => ∃ v, e = .returned v ∧ WorldR w' b v (deliverAll 1024 (ns, ps)).1 (deliverAll 1024 (ns, ps)).2 ∧ BelL w w' := by
 obtain rfl := h.len
 obtain rfl := q.len
 have s1 : FrL k40 40 w b (Under w.heap.size) A ns.length c ns := frl
 have s2 : FrL k126 126 w b (Under w.heap.size) C ps.length f ps := frl
 clear h q
 generalize hy : deliverAll 1024 (ns, ps) = y
 have HY := Aside0.mk hy
 clear hy
 go_enter Tryz.func81, Tryz.ntmps81
 go_wp2_with (first | (with_reducible refine box_tc rfl (N := 1) rfl (cs := #[.slice A ns.length c, .slice B 0 d, .slice C ps.length f]) (t := 61) ?hr ?_; (case hr => go_simp <;> rfl); intro g1 wg1 _ _ _) | (with_reducible refine box_tc rfl (N := 2) rfl (cs := #[.slice none 0 0, .slice none 0 0, .slice none 0 0]) (t := 61) ?hr ?_; (case hr => go_simp <;> rfl); intro g2 wg2 _ _ _))
 go_loopg [3] 1024 (fun kq v3 w' => ∃ (i : Nat) (s : WS) (A' : Option Addr) (c' : Nat) (B' : Option Addr) (d' : Nat) (C' : Option Addr) (f' : Nat), v3 = .int .i64 i ∧ i ≤ 1024 ∧ kq = 1024 - i ∧ OkW s ∧ Aside0 (deliverAll (1024 - i) s = y) ∧ BlkL w' g1 #[.slice A' s.1.length c', .slice B' 0 d', .slice C' s.2.length f'] 61 ∧ FrL k40 40 w' b (Three w'.heap.size g1 g2) A' s.1.length c' s.1 ∧ FrL k126 126 w' b (Three w'.heap.size g1 g2) C' s.2.length f' s.2 ∧ BelL w w' ∧ BlkL w' g2 #[.slice none 0 0, .slice none 0 0, .slice none 0 0] 61)
 case atStart => exact ⟨0, (ns, ps), A, c, B, d, C, f, rfl, by omega, rfl, hO, HY, blkL, frl_three, frl_three, belL, blkL⟩
 case round =>
  obtain ⟨i, s, A', c', B', d', C', f', rfl, hi, rfl, hOs, HD, hB, hs1, hs2, hbr, hB2⟩ := hrel
  by_cases hlt : i < 1024
  ·by_cases hk : 0 < s.2.length
   ·have HN := Aside0.mk (show deliverAll (1024 - (i + 1)) (deliverW s 0) = y by
     have := HD.out
     rwa [show 1024 - i = (1024 - (i + 1)) + 1 by omega, deliverAll_next _ hk] at this)
    have hO2 := deliverW_ok hOs 0
    generalize hz : deliverW s 0 = z at HN hO2
    have HZ := Aside0.mk hz
    clear hz
    go_wp2_with (first | (go_at_call 24; (with_reducible refine cM (doDeliver0_ (ns := s.1) (ps := s.2) hOs) ?_); rw [HZ.out]; rintro e w8 ⟨v8, rfl, ⟨A7, c7, B7, d7, C7, f7, rfl, hF7, hG7⟩, hb8⟩))
    go_roundg (1024 - (i + 1))
    case measure => omega
    case rel => exact ⟨i + 1, z, A7, c7, B7, d7, C7, f7, by go_num, by omega, rfl, hO2, HN, blkL, frl_three, frl_three, belL, blkL⟩
   ·have HE := Aside0.mk (show s = y from (deliverAll_nil _ (by omega)).symm.trans HD.out)
    have hk2 : decide ((0 : Int) < (s.2.length : Int)) = false := decide_eq_false (by omega)
    have hk3 : decide (0 < s.2.length) = false := decide_eq_false hk
    have hk4 : ¬ (0 : Int) < (s.2.length : Int) := by omega
    go_wp2
    exact bodyPost_ret (v := .agg #[.slice A' s.1.length c', .slice B' 0 d', .slice C' s.2.length f']) (by simp [results, Tryz.results81, go_sem]) rfl ⟨_, rfl, ⟨A', c', B', d', C', f', by rw [HE.out], by rw [← HE.out]; exact frl, by rw [← HE.out]; exact frl⟩, belL⟩
  ·obtain rfl : i = 1024 := by omega
   have HE := Aside0.mk (show s = y from HD.out)
   go_wp2
   exact bodyPost_ret (v := .agg #[.slice A' s.1.length c', .slice B' 0 d', .slice C' s.2.length f']) (by simp [results, Tryz.results81, go_sem]) rfl ⟨_, rfl, ⟨A', c', B', d', C', f', by rw [HE.out], by rw [← HE.out]; exact frl, by rw [← HE.out]; exact frl⟩, belL⟩
end
section
attribute [local go_sem] cell_tc2
def tickTo : Nat → WS → WS
 | 0, s => s
 | i + 1, s => tickW (tickTo i s) (nid ((tickTo i s).1.getD i z40))
def tickAll (s : WS) : WS := tickTo s.1.length s
def roundW (s : WS) : WS := deliverAll 1024 (tickAll (deliverAll 1024 s))
theorem tickW_len (s : WS) (id : Int) : (tickW s id).1.length = s.1.length := by
 unfold tickW
 split
 ·split
  ·exact List.length_set ..
  ·rfl
 ·rfl
theorem tickTo_len (s : WS) : ∀ i, (tickTo i s).1.length = s.1.length
 | 0 => rfl
 | i + 1 => (tickW_len _ _).trans (tickTo_len s i)
theorem tickTo_ok {s : WS} (h : OkW s) : ∀ i, OkW (tickTo i s)
 | 0 => h
 | i + 1 => tickW_ok (tickTo_ok h i) _
theorem roundW_ok {s : WS} (h : OkW s) : OkW (roundW s) := deliverAll_ok _ (tickTo_ok (deliverAll_ok _ h) _)
theorem doTick0_ {a1 : Int} {n c d k f : Nat} {A B C : Option Addr} {ns : List S40} {ps : List S126} {w : World} [h : Sr k40 w A n c ns] [q : Sr k126 w C k f ps] (hO : OkW (ns, ps)) (hk : isNode ns a1 = true) :
 Calls Tryz.prog 24 #[.agg #[.slice A n c, .slice B 0 d, .slice C k f], .agg #[.int .i64 0, .int .i64 a1, .int .i64 0, .int .i64 0, .slice none 0 0, .int .i64 0, .int .i64 0]] w fun e w' => ∃ v, e = .returned (.tuple #[v, .int .i64 0]) ∧ WorldR w' w.heap.size v (tickW (ns, ps) a1).1 (tickW (ns, ps) a1).2 ∧ BelL w w' :=
 doTick_ hO hk
set_option maxRecDepth 100000 in
set_option maxHeartbeats 8000000 in
theorem round_ {n c d k f : Nat} {A B C : Option Addr} {ns : List S40} {ps : List S126} {w : World} [h : Sr k40 w A n c ns] [q : Sr k126 w C k f ps] (hO : OkW (ns, ps)) :
 Calls Tryz.prog 27 #[.agg #[.slice A n c, .slice B 0 d, .slice C k f]] w fun e w' => ∃ v, e = .returned (.tuple #[v, .int .i64 0]) ∧ WorldR w' w.heap.size v (roundW (ns, ps)).1 (roundW (ns, ps)).2 ∧ BelL w w' := by
 obtain rfl := h.len
 obtain rfl := q.len
 have s1 := sr_l h
 have s2 := sr_l q
 have hO2 : mayB ns ps = true := hO
 have hs := (mayB_parts hO2).1
 have hq := (mayB_parts hO2).2
 have hz := nodesSz_of hs
 clear h q
 have hR : roundW (ns, ps) = deliverAll 1024 (tickAll (deliverAll 1024 (ns, ps))) := rfl
 rw [hR]
 have hO3 := deliverAll_ok 1024 hO
 clear hR
 generalize hm : deliverAll 1024 (ns, ps) = mid at hO3 ⊢
 have HM := Aside0.mk hm
 have hmid : mid.1.length ≤ 8 := (nodesB_len (mayB_parts (show mayB mid.1 mid.2 = true from hO3)).1).2
 clear hm
 have hO4 : OkW (tickAll mid) := tickTo_ok hO3 _
 have HT : Aside0 (tickTo mid.1.length mid = tickAll mid) := ⟨rfl⟩
 generalize tickAll mid = tm at HT hO4 ⊢
 generalize hy : deliverAll 1024 tm = y
 have HY := Aside0.mk hy
 clear hy
 go_enter Tryz.func27, Tryz.ntmps27
 go_wp2_with (first | (with_reducible refine box_tc rfl (N := 1) rfl (cs := #[.slice A ns.length c, .slice B 0 d, .slice C ps.length f]) (t := 61) ?hr ?_; (case hr => go_simp <;> rfl); intro g1 wg1 _ _ _) | (with_reducible refine box_tc rfl (N := 2) rfl (cs := #[.slice none 0 0, .slice none 0 0, .slice none 0 0]) (t := 61) ?hr ?_; (case hr => go_simp <;> rfl); intro g2 wg2 _ _ _) | (with_reducible refine box_tc rfl (N := 4) rfl (cs := #[.slice none 0 0, .slice none 0 0, .slice none 0 0]) (t := 61) ?hr ?_; (case hr => go_simp <;> rfl); intro g4 wg4 _ _ _) | (go_at_call 33; (with_reducible refine cM (worldMay_ hz) ?_); rintro e wb ⟨rfl, hb1⟩; rw [hO2]) | (go_at_call 65; (with_reducible refine cM (worldCopy_ hs hq) ?_); rintro e w1 ⟨v1, rfl, ⟨A1, c1, B1, d1, C1, f1, rfl, hF1, hF2⟩, hb2⟩) | (go_at_call 81; (with_reducible refine cM (deliver_ (ns := ns) (ps := ps) hO) ?_); rw [HM.out]; rintro e w3 ⟨v3, rfl, ⟨A3, c3, B3, d3, C3, f3, rfl, hF3, hG3⟩, hb3⟩))
 refine wp_letter ?_
 intro wl hbl
 have q2 : LtB g2 wb.heap.size := inferInstance
 go_loopg [16] mid.1.length (fun kq v16 w' => ∃ (i : Nat) (s : WS) (A' : Option Addr) (c' : Nat) (B' : Option Addr) (d' : Nat) (C' : Option Addr) (f' : Nat), v16 = .int .i64 i ∧ i ≤ mid.1.length ∧ kq = mid.1.length - i ∧ OkW s ∧ Aside0 (tickTo i mid = s) ∧ Aside0 (s.1.length = mid.1.length) ∧ BlkL w' g4 #[.slice A' s.1.length c', .slice B' 0 d', .slice C' s.2.length f'] 61 ∧ FrL k40 40 w' wb.heap.size (Both w'.heap.size g4) A' s.1.length c' s.1 ∧ FrL k126 126 w' wb.heap.size (Both w'.heap.size g4) C' s.2.length f' s.2 ∧ BelL wb w' ∧ BlkL w' g2 #[.slice none 0 0, .slice none 0 0, .slice none 0 0] 61)
 case atStart => exact ⟨0, mid, A3, c3, B3, d3, C3, f3, rfl, Nat.zero_le _, rfl, hO3, ⟨rfl⟩, ⟨rfl⟩, blkL, frl_both, frl_both, belL, blkL⟩
 case round =>
  obtain ⟨i, s, A', c', B', d', C', f', rfl, hi, rfl, hOs, HI, HL, hB, hs1, hs2, hbr, hB2⟩ := hrel
  by_cases hlt : i < mid.1.length
  ·have hls : i < s.1.length := by rw [HL.out]; exact hlt
   obtain ⟨ad, X2, y2, X3, y3, X4, y4, X5, y5, rfl, x0, x1, x2, x3, x4, x5, r2, r3, r4, r5⟩ := el_T40 (W := wr) (A := A') (n := s.1.length) (c := c') (l := s.1) i hls
   clear r2 r3 r4 r5
   have hnode : isNode s.1 (nid s.1[i]) = true := isNode_iff.2 ⟨_, List.getElem_mem hls, rfl⟩
   have HN := Aside0.mk (show tickTo (i + 1) mid = tickW s (nid s.1[i]) by
    show tickW (tickTo i mid) (nid ((tickTo i mid).1.getD i z40)) = _
    rw [HI.out, getD40 hls])
   have hO5 := tickW_ok hOs (nid s.1[i])
   have hl5 := tickW_len s (nid s.1[i])
   have hlti : (i : Int) < (s.1.length : Int) := by omega
   unfold nid at HN hO5 hl5 hnode
   generalize hz : tickW s s.1[i].f1.f0 = z at HN hO5 hl5
   have HZ := Aside0.mk hz
   have HL5 := Aside0.mk (show z.1.length = mid.1.length from hl5.trans HL.out)
   clear hz hl5
   go_upto_region 7 with fail
   go_region_with (first | (go_at_call 24; (with_reducible refine cM (doTick0_ (ns := s.1) (ps := s.2) hOs hnode) ?_); rw [HZ.out]; rintro e w8 ⟨v8, rfl, ⟨A7, c7, B7, d7, C7, f7, rfl, hF7, hG7⟩, hb8⟩))
   all_goals
    go_wp2
    go_roundg (mid.1.length - (i + 1))
    case measure => omega
    case rel => exact ⟨i + 1, z, A7, c7, B7, d7, C7, f7, by go_num, by omega, rfl, hO5, HN, HL5, blkL, frl_both, frl_both, belL, blkL⟩
  ·obtain rfl : i = mid.1.length := by omega
   have HE := Aside0.mk (show s = tm from HI.out.symm.trans HT.out)
   go_wp2_with (first | (go_at_call 81; (with_reducible refine cM (deliver_ (ns := s.1) (ps := s.2) hOs) ?_); rintro e w9 ⟨v9, rfl, ⟨A9, c9, B9, d9, C9, f9, rfl, hF9, hG9⟩, hb9⟩; rw [show deliverAll 1024 (s.1, s.2) = y from (congrArg (deliverAll 1024) HE.out).trans HY.out] at hF9 hG9 ⊢))
   exact bodyPost_ret (v := .tuple #[.agg #[.slice A9 y.1.length c9, .slice B9 0 d9, .slice C9 y.2.length f9], .int .i64 0]) (by simp [results, Tryz.results27, go_sem]) rfl ⟨_, rfl, ⟨_, _, _, _, _, _, rfl, frl, frl⟩, belL⟩
end
section
attribute [local go_sem] cell_tc2 frozen_row
theorem set_int {W : World} {g n c b : Nat} {S : Nat → Prop} {l : List Int} (h : Fr kI 3 W b S (some ⟨g, 0, none⟩) n c l) (i : Nat) (hi : i < n) (x : Int) : Fr kI 3 (W.setCell ⟨g, i, none⟩ (.int .i64 x)) b S (some ⟨g, 0, none⟩) n c (l.set i x) := by
 have hl := h.len
 obtain ⟨ad, cs, q0, q1, _, q3⟩ := Kd.C_get (Kd.R_reads' h.R).2.2 0 (i : Int) (by omega) (by omega)
 injection q0 with q0
 subst q0
 have hs := Kd.R_seg (d := kI) (okp := fun _ => False) h.R (i : Int) (by omega) (by omega) (c := cs) (j := 0) (seg := [.int .i64 x]) q1 (fun j u hj => by have := q3 j u hj; rwa [Addr.add_lit, Nat.zero_add] at this) (Nat.le_refl 1) (x' := x)
  (by
   have e6 : cs.drop (0 + 1) = [] := List.drop_eq_nil_of_le (by rw [q1]; exact Nat.le_refl 1)
   show cs.take 0 ++ [.int .i64 x] ++ cs.drop (0 + 1) = [.int .i64 x]
   rw [e6, List.take_zero]
   rfl) (fun _ hf => hf.elim)
 have h2 := hs.1
 have e3 : (i : Int).toNat * kI.sz + 0 = i := by show i * 1 + 0 = i; omega
 rw [e3] at h2
 exact ⟨by rw [List.length_set]; exact hl, h.le, h2⟩
theorem mid_at {W : World} {g n c : Nat} {A R : List Int} {x : Int} [h : Sr kI W (some ⟨g, 0, none⟩) n c (A ++ x :: R)] : CellL W ⟨g, A.length, none⟩ (.int .i64 x) := by
 obtain ⟨ad, e, q⟩ := el_I (W := W) (A := some ⟨g, 0, none⟩) (n := n) (c := c) (l := A ++ x :: R) A.length (by simp)
 injection e with e
 subst e
 have := q.out
 rw [Addr.add_lit, Nat.zero_add] at this
 exact ⟨by simpa using this⟩
theorem swap_at {y x : Int} {R : List Int} : ∀ A : List Int, ((A ++ y :: x :: R).set (A.length + 1) y).set A.length x = A ++ x :: y :: R
 | [] => rfl
 | a :: A => by
   show a :: ((A ++ y :: x :: R).set (A.length + 1) y).set A.length x = _
   rw [swap_at A]
   rfl
theorem swap_perm {y x : Int} {R : List Int} (A : List Int) : (A ++ x :: y :: R).Perm (A ++ y :: x :: R) := List.Perm.append_left A (List.Perm.swap y x R)
theorem rises_mid {f : Int → Int} {A B : List Int} {y x : Int} (h : Rises f (A ++ y :: B)) (hy : f y < f x) (hx : ∀ z ∈ B, f x < f z) : Rises f (A ++ y :: x :: B) := by
 unfold Rises at *
 rw [List.pairwise_append] at h ⊢
 obtain ⟨h1, h2, h3⟩ := h
 obtain ⟨h4, h5⟩ := List.pairwise_cons.1 h2
 refine ⟨h1, List.pairwise_cons.2 ⟨fun z hz => ?_, List.pairwise_cons.2 ⟨hx, h5⟩⟩, fun a ha z hz => ?_⟩
 ·rcases List.mem_cons.1 hz with rfl | hz
  ·exact hy
  ·exact h4 z hz
 ·rcases List.mem_cons.1 hz with rfl | hz
  ·exact h3 a ha _ (List.mem_cons_self ..)
  ·rcases List.mem_cons.1 hz with rfl | hz
   ·exact Int.lt_trans (h3 a ha y (List.mem_cons_self ..)) hy
   ·exact h3 a ha z (List.mem_cons_of_mem _ hz)
theorem snoc_of {A : List Int} (h : A ≠ []) : ∃ A' y, A = A' ++ [y] := ⟨A.dropLast, A.getLast h, (List.dropLast_concat_getLast h).symm⟩
set_option maxRecDepth 100000 in
set_option maxHeartbeats 8000000 in
theorem insertion_ {base : Int} {gb t g n c b : Nat} {S : Nat → Prop} {l : List Int} {w : World} [hb : Blk w gb #[.int .i64 base] t] [h : Fr kI 3 w b S (some ⟨g, 0, none⟩) n c l] [av : Avoid gb b S] [lb : LeB b w.heap.size] [row : Row w g] [geb : GeB b g] (h0 : placeB base = true) (h1 : placesB l = true) (hnd : l.Nodup) (hn : n ≤ 12) (hp : 0 < n) :
 Calls Tryz.prog 214 #[.slice (some ⟨g, 0, none⟩) n c, .int .i64 0, .int .i64 n, .func (.func 177) #[] #[.pointer (some ⟨gb, 0, none⟩)]] w fun e w' => ∃ l', e = .returned (.tuple #[]) ∧ l'.Perm l ∧ Rises (farI base) l' ∧ FrL kI 3 w' b (But gb) (some ⟨g, 0, none⟩) n c l' ∧ BbL b w w' := by
 have hlen := h.len
 have s1 : FrL kI 3 w b (But gb) (some ⟨g, 0, none⟩) n c l := frl_but
 have k1 : BlkL w gb #[.int .i64 base] t := blkL
 have k3 : RowL w g := ⟨row.out⟩
 have kne : NeB gb g := ⟨fun e => av.out g (Fr.ge_row h) (h.R.1 g rfl) e.symm⟩
 have hcn : n ≤ c := h.le
 clear h hb av row
 have H0 := Aside0.mk h0
 go_enter Tryz.func214, Tryz.ntmps214
 go_wp2
 go_loopg [8] (n - 1) (fun kq v8 w' => ∃ (i : Nat) (A C : List Int), v8 = .int .i64 i ∧ 1 ≤ i ∧ i ≤ n ∧ kq = n - i ∧ A.length = i ∧ Aside0 ((A ++ C).Perm l) ∧ Aside0 (Rises (farI base) A) ∧ FrL kI 3 w' b (But gb) (some ⟨g, 0, none⟩) n c (A ++ C) ∧ Bb b w w' ∧ BlkL w' gb #[.int .i64 base] t ∧ RowL w' g)
 case atStart =>
  obtain ⟨x, r, hl⟩ : ∃ x r, l = x :: r := by cases l with
   | nil => simp at hlen; omega
   | cons x r => exact ⟨x, r, rfl⟩
  refine ⟨1, [x], r, rfl, Nat.le_refl 1, hp, rfl, rfl, ⟨by rw [hl]; exact List.Perm.refl _⟩, ⟨List.pairwise_singleton ..⟩, ?_, inferInstance, blkL, k3⟩
  have : FrL kI 3 w b (But gb) (some ⟨g, 0, none⟩) n c l := frl_but
  rwa [hl] at this
 case round =>
  obtain ⟨i, A, C, rfl, hi1, hin, rfl, hAl, HP, HR, hF, hbb, hB, hrow⟩ := hrel
  by_cases hlt : i < n
  ·obtain ⟨x, C', rfl⟩ : ∃ x r, C = x :: r := by
    cases C with
    | nil => have h1 := hF.len; rw [List.length_append] at h1; simp at h1; omega
    | cons x r => exact ⟨x, r, rfl⟩
   have hFl := hF.len
   rw [List.length_append, List.length_cons] at hFl
   go_wp2
   go_loopg [9] i (fun kj v9 w' => ∃ (A B : List Int), v9 = .int .i64 (A.length : Nat) ∧ A.length + B.length = i ∧ kj = A.length ∧ Aside0 ((A ++ x :: (B ++ C')).Perm l) ∧ Aside0 (Rises (farI base) (A ++ B)) ∧ Aside0 (∀ z ∈ B, farI base x < farI base z) ∧ FrL kI 3 w' b (But gb) (some ⟨g, 0, none⟩) n c (A ++ x :: (B ++ C')) ∧ Bb b w w' ∧ BlkL w' gb #[.int .i64 base] t ∧ RowL w' g)
   case atStart => exact ⟨A, [], by rw [hAl], by simp [hAl], hAl.symm, HP, by rw [List.append_nil]; exact HR, ⟨fun z hz => nomatch hz⟩, hF, hbb, hB, hrow⟩
   case round =>
    clear HP HR hF hbb hB hrow
    obtain ⟨D, B, rfl, hDB, rfl, HP, HR, HX, hF, hbb, hB, hrow⟩ := hrel
    have hbl := bbL (h := hbb)
    by_cases hD : D = []
    ·subst hD
     have HR2 := Aside0.mk (show Rises (farI base) (x :: B) from List.pairwise_cons.2 ⟨HX.out, HR.out⟩)
     clear hbl
     go_upto_region 4 with fail
     (refine wp_region_bel (by kernel_rfl) (by kernel_rfl) ?_; (repeat (first | go_big_quiet_skip | (go_big_quiet_want; first | (go_big_quiet_op; go_big_quiet_on) | (apply Exists.intro; refine ⟨fun wq hq => ?_, ?_⟩; (focus (unfold Oper.quietAt; go_simp; first | done | exact ⟨rfl, rfl⟩ | exact rfl)); (try simp only [Act.put, put3]); go_big_quiet_on)))); refine wpQuiet_nil ?_; intro w7 hb7)
     go_wp2
     go_roundg (n - (i + 1))
     case measure => omega
     case rel => exact ⟨i + 1, x :: B, C', by go_num, by omega, by omega, rfl, by rw [List.length_cons]; simp at hDB; omega, HP, HR2, frl_but, inferInstance, blkL, ⟨Row.out⟩⟩
    ·obtain ⟨D', y, rfl⟩ := snoc_of hD
     rw [List.append_assoc, List.singleton_append] at HR HP hF
     have px : placeB x = true := placesB_mem h1 (HP.out.mem_iff.1 (by simp))
     have py : placeB y = true := placesB_mem h1 (HP.out.mem_iff.1 (by simp))
     have hxy : x ≠ y := by
      have h2 := HP.out.nodup_iff.2 hnd
      rw [List.nodup_append] at h2
      have h3 := (List.nodup_cons.1 h2.2.1).1
      exact fun e => h3 (by rw [← e]; exact List.mem_cons_self ..)
     rw [List.length_append, List.length_singleton] at hDB ⊢
     have q1 : CellL wr ⟨g, D'.length, none⟩ (.int .i64 y) := mid_at (n := n) (c := c)
     have q2 : CellL wr ⟨g, D'.length + 1, none⟩ (.int .i64 x) := by
      have hF2 : FrL kI 3 wr b (But gb) (some ⟨g, 0, none⟩) n c ((D' ++ [y]) ++ x :: (B ++ C')) := by rw [List.append_assoc, List.singleton_append]; exact hF
      have := mid_at (W := wr) (g := g) (n := n) (c := c) (A := D' ++ [y]) (x := x) (R := B ++ C')
      rwa [List.length_append, List.length_singleton] at this
     have hlm : D'.length < (D' ++ [y]).length := by simp
     have hbd : (D'.length : Int) + 1 < (n : Int) := by omega
     have hbd2 : (D'.length : Int) < (n : Int) := by omega
     have hne : D'.length + 1 ≠ 0 := by omega
     have n1 : (0 : Int) ≤ (D'.length : Int) + 1 := by omega
     have t1 : ((D'.length : Int) + 1).toNat = D'.length + 1 := by omega
     have w1 : IntKind.i64.wrap ((D'.length : Int) + 1 - 1) = (D'.length : Int) := by rw [IntKind.wrap_i64]; omega
     have w0 : IntKind.i64.wrap (D'.length : Int) = (D'.length : Int) := by rw [IntKind.wrap_i64]; omega
     have n0 : (0 : Int) ≤ (D'.length : Int) := by omega
     have w2 : (D'.length : Int) + 1 - 1 = (D'.length : Int) := by omega
     have c1 : decide (0 < (D'.length : Int) + 1) = true := decide_eq_true (by omega)
     cases hc : decide (byI base x y < 0)
     ·have HRE := Aside0.mk (show Rises (farI base) (D' ++ y :: x :: B) from rises_mid HR.out (by
       have h2 := of_decide_eq_false hc
       unfold byI at h2
       rw [cmpI_neg] at h2
       have h3 : farI base x ≠ farI base y := fun e => hxy (farI_inj px py e)
       omega) HX.out)
      clear hbl
      go_upto_region 4 with fail
      refine wp_letter fun w6 hb6 => ?_
      go_region_held3 (fun w_ => BelL w6 w_) (first | exact belL) (first | (go_at_call 177; (with_reducible refine cM (by1_ H0.out px py) ?_); rintro e w7 ⟨rfl, hb⟩))
      all_goals
       go_wp2
       go_roundg (n - (i + 1))
       case measure => omega
       case rel => exact ⟨i + 1, D' ++ y :: x :: B, C', by go_num, by omega, by omega, rfl, by rw [List.length_append, List.length_cons, List.length_cons]; omega, ⟨by rw [List.append_assoc]; exact HP.out⟩, HRE, by rw [List.append_assoc]; exact frl_but, inferInstance, blkL, ⟨Row.out⟩⟩
     ·have HXE := Aside0.mk (show ∀ z ∈ y :: B, farI base x < farI base z by
       have h2 := of_decide_eq_true hc
       unfold byI at h2
       rw [cmpI_neg] at h2
       intro z hz
       rcases List.mem_cons.1 hz with rfl | hz
       ·exact h2
       ·exact HX.out z hz)
      have HPE := Aside0.mk (show (D' ++ x :: (y :: B ++ C')).Perm l from (swap_perm D').trans HP.out)
      clear hbl
      go_upto_region 4 with fail
      refine wp_letter fun w6 hb6 => ?_
      go_region_held3 (fun w_ => BelL w6 w_) (first | exact belL) (first | (go_at_call 177; (with_reducible refine cM (by1_ H0.out px py) ?_); rintro e w7 ⟨rfl, hb⟩))
      all_goals
       go_upto_region 6 with fail
       refine wp_letter ?_
       intro w8 hb8
       go_region_with fail
       all_goals
        go_wp2
        have f0 : Fr kI 3 w8 b (But gb) (some ⟨g, 0, none⟩) n c (D' ++ y :: x :: (B ++ C')) := inferInstance
        have f2 := set_int (set_int f0 (D'.length + 1) (by omega) y) D'.length (by omega) x
        rw [swap_at] at f2
        go_roundg D'.length
        case measure => exact hlm
        case rel => exact ⟨D', y :: B, by go_num, by rw [List.length_cons]; omega, rfl, HPE, HR, HXE, ⟨f2.len, f2.le, f2.R⟩, inferInstance, blkL, ⟨Row.out⟩⟩
  ·obtain rfl : i = n := by omega
   go_wp2
   go_end0
   have hbl := bbL (h := hbb)
   have hC : C = [] := by
    have h1 := hF.len
    rw [List.length_append] at h1
    exact List.eq_nil_of_length_eq_zero (by omega)
   subst hC
   rw [List.append_nil] at hF HP
   exact ⟨A, rfl, HP.out, HR.out, hF, hbl⟩
end
section
attribute [local go_sem] cell_tc2 frozen_row
set_option maxRecDepth 100000 in
set_option maxHeartbeats 4000000 in
theorem len64_ {n : Nat} {w : World} (hn : n ≤ 12) : Calls Tryz.prog 223 #[.int .u64 n] w fun e w' => ∃ l : Int, e = .returned (.int .i64 l) ∧ Drawn0 w w' := by
 have hn2 : (n : Int) ≤ 12 := by omega
 have hn3 : (0 : Int) ≤ (n : Int) := by omega
 have c1 : decide ((4294967296 : Int) ≤ (n : Int)) = false := decide_eq_false (by omega)
 have c2 : decide ((65536 : Int) ≤ (n : Int)) = false := decide_eq_false (by omega)
 have c3 : decide ((256 : Int) ≤ (n : Int)) = false := decide_eq_false (by omega)
 go_enter Tryz.func223, Tryz.ntmps223
 go_wp2
 go_ret
 exact ⟨_, rfl, by repeat (first | exact Drawn0.refl _ | apply Drawn0.step)⟩
set_option maxRecDepth 100000 in
set_option maxHeartbeats 8000000 in
theorem pdq_ {lim : Int} {base : Int} {gb t g n c b : Nat} {S : Nat → Prop} {l : List Int} {w : World} [hb : Blk w gb #[.int .i64 base] t] [h : Fr kI 3 w b S (some ⟨g, 0, none⟩) n c l] [av : Avoid gb b S] [lb : LeB b w.heap.size] [row : Row w g] [geb : GeB b g] (h0 : placeB base = true) (h1 : placesB l = true) (hnd : l.Nodup) (hn : n ≤ 12) (hp : 0 < n) :
 Calls Tryz.prog 201 #[.slice (some ⟨g, 0, none⟩) n c, .int .i64 0, .int .i64 n, .int .i64 lim, .func (.func 177) #[] #[.pointer (some ⟨gb, 0, none⟩)]] w fun e w' => ∃ l', e = .returned (.tuple #[]) ∧ l'.Perm l ∧ Rises (farI base) l' ∧ FrL kI 3 w' b (But gb) (some ⟨g, 0, none⟩) n c l' ∧ BbL b w w'  := by
 have HI := Aside0.mk (insertion_ (w := w) (gb := gb) (g := g) (c := c) h0 h1 hnd hn hp)
 clear h hb av row
 go_enter Tryz.func201, Tryz.ntmps201
 go_wp2
 refine wp_loop_rounds 1 ?_
 rw [rounds_succ]
 go_wp2_with (first | (go_at_call 214; (with_reducible refine Calls.mono HI.out ?_); rintro e w1 ⟨l', rfl, hP, hR, hF, hB⟩))
 (try simp only [Exit.inBlock, Exit.then]); refine bodyPost_ret (results_none rfl _ _ _) rfl ?_
 exact ⟨l', rfl, hP, hR, hF, hB⟩
set_option maxHeartbeats 4000000 in
theorem len_ {n : Nat} {w : World} (hn : n ≤ 12) : Calls Tryz.prog 202 #[.int .u64 n] w fun e w' => ∃ l : Int, e = .returned (.int .i64 l) ∧ Drawn0 w w' := by
 have hn2 : (n : Int) ≤ 12 := by omega
 go_enter Tryz.func202, Tryz.ntmps202
 go_wp2_with (first | (go_at_call 223; (with_reducible refine cM (len64_ hn) ?_); rintro e w' ⟨l, rfl, ⟨nd, rfl⟩⟩))
 go_ret
 exact ⟨_, rfl, by repeat (first | exact Drawn0.refl _ | apply Drawn0.step)⟩
set_option maxRecDepth 100000 in
set_option maxHeartbeats 8000000 in
theorem sortFunc_ {base : Int} {gb t g n c b : Nat} {S : Nat → Prop} {l : List Int} {w : World} [hb : Blk w gb #[.int .i64 base] t] [h : Fr kI 3 w b S (some ⟨g, 0, none⟩) n c l] [av : Avoid gb b S] [lb : LeB b w.heap.size] [row : Row w g] [geb : GeB b g] (h0 : placeB base = true) (h1 : placesB l = true) (hnd : l.Nodup) (hn : n ≤ 12) (hp : 0 < n) :
 Calls Tryz.prog 175 #[.slice (some ⟨g, 0, none⟩) n c, .func (.func 177) #[] #[.pointer (some ⟨gb, 0, none⟩)]] w fun e w' => ∃ l', e = .returned (.tuple #[]) ∧ l'.Perm l ∧ Rises (farI base) l' ∧ FrL kI 3 w' b (But gb) (some ⟨g, 0, none⟩) n c l' ∧ BbL b w w'  := by
 have s1 : FrL kI 3 w b (But gb) (some ⟨g, 0, none⟩) n c l := frl_but
 have k1 : BlkL w gb #[.int .i64 base] t := blkL
 have k3 : RowL w g := ⟨row.out⟩
 have hn2 : (n : Int) ≤ 12 := by omega
 clear h hb av row
 go_enter Tryz.func175, Tryz.ntmps175
 go_wp2_with (first | (go_at_call 202; (with_reducible refine cM (len_ hn) ?_); rintro e w' ⟨lim, rfl, ⟨nd, rfl⟩⟩) | (go_at_call 201; (with_reducible refine cM (pdq_ h0 h1 hnd hn hp) ?_); rintro e w1 ⟨l', rfl, hP, hR, hF, hB⟩))
 go_end0
 exact ⟨l', rfl, hP, hR, hF, bbL⟩
set_option maxRecDepth 100000 in
set_option maxHeartbeats 8000000 in
theorem compact_ {A : Option Addr} {n c : Nat} {l : List Int} {w : World} [h : Sr kI w A n c l] (hnd : l.Nodup) (hn : n ≤ 1000) :
 Calls Tryz.prog 136 #[.slice A n c] w fun e w' => e = .returned (.slice A n c) ∧ BelL w w' := by
 obtain rfl := h.len
 have s1 := sr_l h
 clear h
 by_cases h2 : l.length < 2
 ·have e1 : decide ((l.length : Int) < 2) = true := decide_eq_true (by omega)
  go_enter Tryz.func136, Tryz.ntmps136
  go_wp2
  go_ret
  exact ⟨rfl, belL⟩
 ·have e1 : decide ((l.length : Int) < 2) = false := decide_eq_false (by omega)
  go_enter Tryz.func136, Tryz.ntmps136
  go_wp2
  go_loopg [3] (l.length - 1) (fun kq v3 w' => ∃ i : Nat, v3 = .int .i64 i ∧ 1 ≤ i ∧ i ≤ l.length ∧ kq = l.length - i ∧ BelL w w')
  case atStart => exact ⟨1, rfl, Nat.le_refl 1, by omega, rfl, belL⟩
  case round =>
   obtain ⟨i, rfl, hi1, hi, rfl, hbr⟩ := hrel
   by_cases hlt : i < l.length
   ·obtain ⟨j, rfl⟩ : ∃ j, i = j + 1 := ⟨i - 1, by omega⟩
    obtain ⟨ad, rfl, x0⟩ := el_I (W := wr) (A := A) (n := l.length) (c := c) (l := l) (j + 1) hlt
    obtain ⟨ad2, e2, x1⟩ := el_I (W := wr) (A := some ad) (n := l.length) (c := c) (l := l) j (by omega)
    injection e2 with e2
    subst e2
    have hne : (l[j + 1] == l[j]) = false := by
     have : l[j] ≠ l[j + 1] := fun e => by have := (List.getElem_inj hnd).1 e; omega
     simpa using fun e => this e.symm
    have n0 : (0 : Int) ≤ (j : Int) := by omega
    have n1 : (0 : Int) ≤ (j : Int) + 1 := by omega
    have n2 : (j : Int) + 1 < (l.length : Int) := by omega
    have n3 : (j : Int) < (l.length : Int) := by omega
    have t1 : ((j : Int) + 1).toNat = j + 1 := by omega
    have w0 : IntKind.i64.wrap (j : Int) = (j : Int) := by rw [IntKind.wrap_i64]; omega
    have w1 : IntKind.i64.wrap ((j : Int) + 1 - 1) = (j : Int) := by rw [IntKind.wrap_i64]; omega
    have w2 : (j : Int) + 1 - 1 = (j : Int) := by omega
    generalize l[j + 1] = y at x0 hne
    generalize l[j] = z at x1 hne
    have x0b : CellL wr { block := ad.block, off := ad.off + (j + 1) } (.int .i64 y) := ⟨by have := x0.out; rwa [Addr.add_succ'] at this⟩
    go_upto_region 6 with fail
    refine wp_letter fun w6 hb6 => ?_
    go_region_held3 (fun w_ => BelL w6 w_) (first | exact belL) (fail)
    all_goals
     go_wp2
     go_roundg (l.length - (j + 1 + 1))
     case measure => clear w0 w1 w2 t1; omega
     case rel => clear w0 w1 w2 t1; exact ⟨j + 1 + 1, by go_num, by omega, by omega, rfl, belL⟩
   ·obtain rfl : i = l.length := by omega
    go_wp2
    go_ret
    exact ⟨rfl, belL⟩
end
end Go.Proofs.YtljipbmmgcccnaaGreat.T
end
