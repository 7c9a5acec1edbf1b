/- Words and lemmas that the claim's proof names, part 13: what the program's functions answer, at the inputs that each theorem's premises name. Conditions: each theorem's own premises. -/
import Derived.Test.YtljipbmmgcccnaaGreatKP12
import Derived.RangeFuncBox
import Derived.RangeFuncLeaves
import Derived.OwnWalkIn
import Derived.TacticsInMore
import Derived.LoopNIn
import Derived.LoopIn
import Derived.RangeFuncCalls
import Derived.RangeFuncBound
section
namespace Go.Proofs.YtljipbmmgcccnaaGreat.T
open Go Go.Proofs Go.Shelf
open Go.RowKit Go.Proofs.YtljipbmmgcccnaaGreatW.PrintWords Go.Proofs.YtljipbmmgcccnaaGreatW.PrintLast Go.Proofs.YtljipbmmgcccnaaGreatW.PrintMore
attribute [local go_sem] Oper.semAt_some
set_option linter.unusedVariables false
set_option linter.unusedSimpArgs false
def upto (zs : List Int) (k : Nat) : List Int := (List.range k).map fun j => zs[j]?.getD 0
theorem upto_succ (zs : List Int) (k : Nat) : upto zs (k + 1) = upto zs k ++ [zs[k]?.getD 0] := by simp [upto, List.range_succ]
theorem upto_length (zs : List Int) (k : Nat) : (upto zs k).length = k := by simp [upto]
theorem upto_all (zs : List Int) : upto zs zs.length = zs := by
 apply List.ext_getElem
 ·simp [upto]
 ·intro i h1 h2
  simp [upto, h2]
theorem upto_take (zs : List Int) {k : Nat} (hk : k ≤ zs.length) : upto zs k = zs.take k := by
 apply List.ext_getElem
 ·simp [upto, hk]
 ·intro i h1 h2
  have : i < zs.length := by simp [upto] at h1; omega
  simp [upto, this]
set_option maxRecDepth 100000 in
set_option maxHeartbeats 2000000 in
theorem values1_in (F : Fence) (n : Nat) (h7 : F.fn 176) (hro : F.round = none) (hn : 1 ≤ n) (l Bs n₀ b off len cap : Nat) (zs : List Int) (hreach : len * 8 ≤ 140737488351232) (hb : b < n₀) (J Jx : List Int → World → Prop)
 (hY : ∀ pre x W, J pre W → pre.length < len → YieldAt F (n - 1) Tryz.prog l #[.int .i64 x] W fun e W' =>
  (e = .returned (.bool true) ∧ J (pre ++ [x]) W' ∧ Below n₀ W W') ∨ (e = .returned (.bool false) ∧ Jx (pre ++ [x]) W'))
 (W : World) (hBs : W.cell? ⟨Bs, 0, none⟩ = some (.slice (some ⟨b, off, none⟩) len cap)) (hc : ∀ j, j < len → W.cell? ⟨b, off + j, none⟩ = some (.int .i64 (zs[j]?.getD 0))) (h0 : J [] W) :
 CallsIn F n Tryz.prog 176 #[.func (.yield l) #[] #[], .pointer (some ⟨Bs, 0, none⟩)] W fun e W' => (∃ v, e = .returned v) ∧
  ((∃ ys, ys = upto zs len ∧ J ys W') ∨ (∃ pre, (∃ k, k ≤ len ∧ pre = upto zs k) ∧ Jx pre W')) := by
 refine callsIn_of_wp Tryz.func176 rfl h7 ?_ hro
 simp only [Tryz.ntmps176, List.size_toArray, List.length_cons, List.length_nil, Nat.reduceAdd, Nat.reduceSub, Array.replicate_succ, Array.replicate_zero, List.push_toArray, List.append_toArray, List.nil_append, List.cons_append]
 gi_wp2
 gi_loopw [7] (fun i wr => ∃ k : Nat, k ≤ len ∧ i = .int .i64 k ∧ J (upto zs k) wr ∧ Below n₀ W wr)
  (fun i _ => len - (intOf i).toNat)
 case atStart => exact ⟨0, Nat.zero_le _, rfl, h0, Below.refl _ _⟩
 case round =>
  obtain ⟨k, hk, rfl, hJs, hnx⟩ := hrel
  have hcx : k < len → wr.cell? ⟨b, off + k, none⟩ = some (.int .i64 (zs[k]?.getD 0)) := fun h => (hnx.cell (p := ⟨b, off + k, none⟩) hb).trans (hc k h)
  by_cases hlt : k < len
  ·obtain ⟨fn, tmps, assign, body, hy, hR⟩ := hY _ (zs[k]?.getD 0) wr hJs (by rw [upto_length]; exact hlt)
   have hcx' := hcx hlt
   gi_wp2
   refine hR.mono ?_
   rintro e W3 (⟨rfl, hJ3, hk3⟩ | ⟨rfl, hJx3⟩)
   ·gi_wp2
    go_roundw
    case rel => exact ⟨k + 1, by omega, by simp, by rw [upto_succ]; exact hJ3, hnx.trans hk3⟩
    case measure => simp [intOf]; omega
   ·gi_wp2
    refine bodyPost_ret (results_none rfl _ _ _) rfl ?_
    exact ⟨⟨_, rfl⟩, .inr ⟨_, ⟨k + 1, by omega, (upto_succ _ _).symm⟩, hJx3⟩⟩
  ·obtain rfl : k = len := by omega
   gi_wp2
   go_end0
   exact ⟨⟨_, rfl⟩, .inl ⟨_, rfl, hJs⟩⟩
theorem values_stops (F : Fence) (n : Nat) (h7 : F.fn 176) (hro : F.round = none) (hn : 1 ≤ n) (Bs n₀ b off cap : Nat) (zs : List Int) (hreach : zs.length * 8 ≤ 140737488351232) (w : World) (hBs : Bs < w.heap.size) (hn₀ : n₀ ≤ w.heap.size)
 (hc : w.cell? ⟨Bs, 0, none⟩ = some (.slice (some ⟨b, off, none⟩) zs.length cap)) (hb : b < n₀) (hcs : ∀ j, j < zs.length → w.cell? ⟨b, off + j, none⟩ = some (.int .i64 (zs[j]?.getD 0))) :
 SeqStopsK F n Tryz.prog 176 #[.pointer (some ⟨Bs, 0, none⟩)] (fun x : Int => #[Value.int .i64 x]) (Below n₀) (fun ys => ys = zs) (fun pre => pre <+: zs) zs.length w := fun l J Jx W hW _ _ hY h0 => by
 have hc' := (hW.cell (p := ⟨Bs, 0, none⟩) hBs).trans hc
 have hcs' : ∀ j, j < zs.length → W.cell? ⟨b, off + j, none⟩ = some (.int .i64 (zs[j]?.getD 0)) := fun j hj => (hW.cell (p := ⟨b, off + j, none⟩) (by show b < w.heap.size; omega)).trans (hcs j hj)
 refine (values1_in F n h7 hro hn l Bs n₀ b off zs.length cap zs hreach hb J Jx hY W hc' hcs' h0).mono ?_
 rintro e W' ⟨he, ⟨ys, rfl, hj⟩ | ⟨pre, ⟨k, hk, rfl⟩, hj⟩⟩
 ·exact ⟨he, .inl ⟨_, upto_all zs, hj⟩⟩
 ·exact ⟨he, .inr ⟨_, by rw [upto_take zs hk]; exact List.take_prefix _ _, hj⟩⟩
theorem info3x : (Tryz.prog.info? 3).map (fun i => (i.zero, i.size, i.bytes)) = some (some (.int .i64 0), 1, 8) := by kernel_rfl
set_option maxRecDepth 100000 in
set_option maxHeartbeats 2000000 in
theorem appendSeq_in (F : Fence) (n : Nat) (h200 : F.fn 200) (h176 : F.fn 176) (hro : F.round = none) (hn : 2 ≤ n) (Bs b off cap : Nat) (zs : List Int) (hlen : zs.length ≤ 1000) (w : World) (hBs : Bs < w.heap.size)
 (hc : w.cell? ⟨Bs, 0, none⟩ = some (.slice (some ⟨b, off, none⟩) zs.length cap)) (hb : b < w.heap.size) (hcs : ∀ j, j < zs.length → w.cell? ⟨b, off + j, none⟩ = some (.int .i64 (zs[j]?.getD 0))) :
 CallsIn F n Tryz.prog 200 #[.slice none 0 0, .func (.func 176) #[] #[.pointer (some ⟨Bs, 0, none⟩)]] w fun e W' => ∃ v, e = .returned v ∧ W'.ownsRow w.heap.size 3 1 v zs.length (zs.map (Value.int .i64)) ∧ Below w.heap.size w W' := by
 have h1 : 1 ≤ n := by omega
 obtain ⟨i0, hi, hz0, hz1, hz2⟩ := info_parts info3x
 refine callsIn_of_wp_marks Tryz.func200 rfl h200 ?_ hro
 simp only [Tryz.ntmps200, List.size_toArray, List.length_cons, List.length_nil, Nat.reduceAdd, Nat.reduceSub, Array.replicate_succ, Array.replicate_zero, List.push_toArray, List.append_toArray, List.nil_append, List.cons_append]
 gi_wp2
 have bO := Boxed.new w 23 (.slice none 0 0)
 have hB0 : Below w.heap.size w (w.alloc (.cells #[.slice none 0 0] 23)) := (Below.refl _ w).alloc (Nat.le_refl _) _
 have hc2 : (w.alloc (.cells #[.slice none 0 0] 23)).cell? ⟨Bs, 0, none⟩ = some (.slice (some ⟨b, off, none⟩) zs.length cap) := (hB0.cell (p := ⟨Bs, 0, none⟩) hBs).trans hc
 have hcs2 : ∀ j, j < zs.length → (w.alloc (.cells #[.slice none 0 0] 23)).cell? ⟨b, off + j, none⟩ = some (.int .i64 (zs[j]?.getD 0)) := fun j hj => (hB0.cell (p := ⟨b, off + j, none⟩) hb).trans (hcs j hj)
 refine wpIn_rangeFunc_ownG hro h1 (gf := 176) (lb := #[.pointer (some ⟨Bs, 0, none⟩)]) rfl h176 (enters_of Tryz.func176 (by kernel_rfl) rfl)
  (values_stops F (n - 1) h176 hro (by omega) Bs w.heap.size b off cap zs (by omega) _ (by simp; omega) (by simp) hc2 hb hcs2) belowK_t (belowK_b (by simp)) (Below.refl _ _) (fun _ => rfl)
  (fun pre W => (∃ v, Boxed W w.heap.size 23 v ∧ W.ownsRow w.heap.size 3 1 v pre.length (pre.map (Value.int .i64)) ∧ (v = .slice none 0 0 ↔ pre = [])) ∧ Below w.heap.size w W)
  (fun _ _ _ => False)
  (OwnFrom.and (Own.from (holdsRow_own w.heap.size w.heap.size 23 3 1 (fun pre => pre.length) (fun pre => pre.map (Value.int .i64)) (fun pre v => v = .slice none 0 0 ↔ pre = [])) _) (ownFrom_below (Nat.le_refl _) (by simp)))
  (fun _ _ _ _ _ hs _ _ => hs)
  ⟨⟨_, bO, World.ownsRow_nil _ _ _ _, by simp⟩, hB0⟩
  (fun x => { tmps := #[.slice none 0 0, .func (.func 176) #[] #[.pointer (some ⟨Bs, 0, none⟩)], .pointer (some ⟨w.heap.size, 0, none⟩), undef, .slice none 0 0, .int .i64 x, .func (.func 176) #[] #[.pointer (some ⟨Bs, 0, none⟩)], .int .i64 x, undef, undef, undef, undef, undef], defers := [] }) ?assign ?body ?done ?stop
 case assign =>
  intro l x W K hK
  gi_wp2
  exact hK
 case body =>
  rintro l pre x W ⟨⟨v, hv, hrow, hnil⟩, hB⟩ hlt
  have hc := hv.cell
  have hm1 : pre.length + 1 ≤ maxLen := by unfold maxLen; omega
  have hm2 : (pre.length + 1) * 8 ≤ 140737488355328 := by omega
  gi_wp2_with (gi_at_builtin; refine wpListIn_append_own _ rfl _ _ 23 rfl w.heap.size 3 i0 (.int .i64 0) 1 8 Tryz.underlying23 hi hz0 hz1 hz2 rfl (by decide) _ _ _ rfl (hrow.alloc _) ⟨W.heap.size, 0, none⟩ 1 1 [.int .i64 x] rfl rfl (cell_one_new _ _ _) (by simp [Value.oneCell']) (by omega) (by omega) (by have := hB.size; simp; omega) ?_; intro v' w1 hown' hgrow _; obtain ⟨g', cap', rfl⟩ := ownsRow_succ hown'; obtain ⟨hv1, hv2, hr2, hk2, hb2⟩ := hv.appended (by decide) hrow hB.size (Nat.le_refl _) hown' hgrow; have hc1 := hv1.cell; have hf1 := hv1.frozen)
  exact ⟨hk2.from _, hb2, ⟨_, hv2, by simpa using hr2, by simp⟩, hB.trans hb2⟩
 case done =>
  rintro D ys W hD rfl ⟨⟨v, hv, hrow, hnil⟩, hB⟩ hK
  have hc := hv.cell
  gi_wp2
  refine ⟨by simp, .inl ⟨_, _, rfl, run_takeDeferred hK, ?_⟩⟩
  exact ⟨_, results_tmp rfl _ _ _, v, rfl, ownsRow_putObj hrow _ hK rfl, hB.trans (belowK_b (w := w) (Nat.le_refl _) W D _ _ (by simp at hD; omega) hK rfl rfl)⟩
 case stop =>
  rintro D c pre W _ _ h _
  exact h.elim
end Go.Proofs.YtljipbmmgcccnaaGreat.T
end
section
namespace Go.Proofs.YtljipbmmgcccnaaGreat.T
open Go.RowKit Go.Proofs.YtljipbmmgcccnaaGreatW.PrintWords Go.Proofs.YtljipbmmgcccnaaGreatW.PrintLast Go.Proofs.YtljipbmmgcccnaaGreatW.PrintMore
attribute [local go_sem] cell_tc frozen_tc max2_int min2_int
attribute [local go_sem ↓] Go.wp_at_zero Go.wp_at_succ
set_option linter.unusedVariables false
set_option linter.unusedSimpArgs false
set_option synthInstance.maxHeartbeats 400000
set_option synthInstance.maxSize 512
section
attribute [local go_sem] cell_tc2 frozen_row
theorem values_ {A : Option Addr} {n c : Nat} {w : World} : Calls Tryz.prog 134 #[.slice A n c] w fun e w' => ∃ g, e = .returned (.func (.func 176) #[] #[.pointer (some ⟨g, 0, none⟩)]) ∧ BlkL w' g #[.slice A n c] 23 ∧ GEL w g ∧ BelL w w' := by
 go_enter Tryz.func134, Tryz.ntmps134
 go_wp2_with (first | (with_reducible refine box_tc rfl (N := 1) rfl (cs := #[.slice A n c]) (t := 23) ?hr ?_; (case hr => go_simp <;> rfl); intro g1 wg1 _ _ _))
 go_ret
 exact ⟨g1, rfl, blkL, ⟨GE.out⟩, belL⟩
theorem appendSeq_ {Bs b n c t : Nat} {l : List Int} {w : World} [hB : Blk w Bs #[.slice (some ⟨b, 0, none⟩) n c] t] [h : Sr kI w (some ⟨b, 0, none⟩) n c l] (hn : n ≤ 1000) (hp : 0 < n) :
 Calls Tryz.prog 200 #[.slice none 0 0, .func (.func 176) #[] #[.pointer (some ⟨Bs, 0, none⟩)]] w fun e w' => ∃ A' c', e = .returned (.slice A' l.length c') ∧ FrL kI 3 w' w.heap.size (Under w'.heap.size) A' l.length c' l ∧ BelL w w' := by
 have hl := h.len
 subst hl
 have hcell : ∀ j, j < l.length → w.cell? ⟨b, 0 + j, none⟩ = some (.int .i64 (l[j]?.getD 0)) := fun j hj => by
  obtain ⟨ad, e, q⟩ := el_I (W := w) (A := some ⟨b, 0, none⟩) (n := l.length) (c := c) (l := l) j hj
  injection e with e
  subst e
  have := q.out
  rw [Addr.add_lit] at this
  rw [List.getElem?_eq_getElem hj]
  exact this
 have hblt : b < w.heap.size := World.block_lt_of_cell? w _ (hcell 0 hp)
 refine ((callsIn_wide (n := 3)).1 (appendSeq_in _ 3 trivial trivial rfl (by decide) Bs b 0 c l hn w (blk_lt hB.out) ((blk_cell hB.out 0).trans rfl) hblt hcell)).mono ?_
 rintro e w' ⟨v, rfl, hrow, hb⟩
 have hR : kI.R 3 w' w.heap.size (fun _ => True) v l := ⟨fun _ _ => trivial, _, hrow, ⟨by rw [List.length_map]; exact (Nat.mul_one _).symm, fun j p hj => by
  show ((l.map (Value.int .i64)).drop (j * 1)).take 1 = [.int .i64 p]
  rw [Nat.mul_one, ← List.map_drop, ← List.map_take]
  obtain ⟨hj2, e⟩ := List.getElem?_eq_some_iff.1 hj
  rw [List.drop_eq_getElem_cons hj2, e]
  rfl⟩⟩
 obtain ⟨A', c', rfl, hF⟩ := frl_of hR
 exact ⟨A', c', rfl, hF, ⟨hb⟩⟩
theorem collect_ {Bs b n c t : Nat} {l : List Int} {w : World} [hB : Blk w Bs #[.slice (some ⟨b, 0, none⟩) n c] t] [h : Sr kI w (some ⟨b, 0, none⟩) n c l] (hn : n ≤ 1000) (hp : 0 < n) :
 Calls Tryz.prog 174 #[.func (.func 176) #[] #[.pointer (some ⟨Bs, 0, none⟩)]] w fun e w' => ∃ A' c', e = .returned (.slice A' l.length c') ∧ FrL kI 3 w' w.heap.size (Under w'.heap.size) A' l.length c' l ∧ BelL w w' := by
 have HA := Aside0.mk (appendSeq_ (w := w) (Bs := Bs) (b := b) (c := c) (l := l) hn hp)
 clear h hB
 go_enter Tryz.func174, Tryz.ntmps174
 go_wp2_with (first | (go_at_call 200; (with_reducible refine Calls.mono HA.out ?_); rintro e w1 ⟨A1, c1, rfl, hF1, hb1⟩))
 go_ret
 exact ⟨A1, c1, rfl, hF1, hb1⟩
set_option maxHeartbeats 2000000 in
theorem sortedFunc_ {base : Int} {gb tb Bs b n c t : Nat} {l : List Int} {w : World} [hB : Blk w Bs #[.slice (some ⟨b, 0, none⟩) n c] t] [h : Sr kI w (some ⟨b, 0, none⟩) n c l] [hb : Blk w gb #[.int .i64 base] tb] (h0 : placeB base = true) (h1 : placesB l = true) (hnd : l.Nodup) (hn : n ≤ 12) (hp : 0 < n) :
 Calls Tryz.prog 133 #[.func (.func 176) #[] #[.pointer (some ⟨Bs, 0, none⟩)], .func (.func 177) #[] #[.pointer (some ⟨gb, 0, none⟩)]] w fun e w' => ∃ l' g' c', e = .returned (.slice (some ⟨g', 0, none⟩) n c') ∧ l'.Perm l ∧ Rises (farI base) l' ∧ FrL kI 3 w' w.heap.size (Under w'.heap.size) (some ⟨g', 0, none⟩) n c' l' ∧ BelL w w' := by
 obtain rfl := h.len
 have s1 := sr_l h
 have k1 : BlkL w gb #[.int .i64 base] tb := blkL
 have k2 : BlkL w Bs #[.slice (some ⟨b, 0, none⟩) l.length c] t := blkL
 clear h hB hb
 go_enter Tryz.func133, Tryz.ntmps133
 go_upto_region 2 with (first | (go_at_call 174; (with_reducible refine cM (collect_ (by omega) hp) ?_); rintro e w1 ⟨A1, c1, rfl, hF1, hb1⟩))
 obtain ⟨g1, rfl, hrow, hge⟩ := fr_form hF1 hp
 have geb := GeB.mk hge
 go_wp2_with (first | (go_at_call 175; (with_reducible refine cM (sortFunc_ (base := base) h0 h1 hnd hn hp) ?_); rintro e w2 ⟨l', rfl, hP, hR, hF2, hB2⟩))
 go_ret
 exact ⟨l', g1, c1, rfl, hP, hR, frl, belL⟩
end
section
attribute [local go_sem] cell_tc2 frozen_row
theorem sr_tail {W : World} {g n c : Nat} {x : Int} {r : List Int} [h : Sr kI W (some ⟨g, 0, none⟩) n c (x :: r)] : SrL kI W (some ⟨g, 1, none⟩) r.length (c - 1) r := by
 have hl := h.len
 rw [List.length_cons] at hl
 have hle := h.le
 refine ⟨rfl, by omega, ⟨rfl, by have := h.C.2.1; omega, fun hp => ?_⟩⟩
 obtain ⟨ad, e, hc⟩ := h.C.2.2 (by omega)
 injection e with e
 subst e
 refine ⟨_, rfl, fun j p hj => ?_⟩
 obtain ⟨cs, h1, h2, h3⟩ := hc (j + 1) p (by rw [List.getElem?_cons_succ]; exact hj)
 refine ⟨cs, h1, h2, fun q u hu => ?_⟩
 have := h3 q u hu
 rw [Addr.add_lit] at this ⊢
 rw [show 1 + (j * kI.sz + q) = 0 + ((j + 1) * kI.sz + q) by show 1 + (j * 1 + q) = 0 + ((j + 1) * 1 + q); omega]
 exact this
theorem sr_none {W : World} {A : Option Addr} {c : Nat} : SrL kI W A 0 c [] := ⟨rfl, Nat.zero_le _, ⟨rfl, by decide, fun h => absurd h (Nat.lt_irrefl 0)⟩⟩
theorem base_first {base x : Int} {r : List Int} (hb : placeB base = true) (hp : ∀ y ∈ x :: r, placeB y = true) (h : Rises (farI base) (x :: r)) : (x = base → ∀ y, y ∈ r ↔ y ∈ x :: r ∧ y ≠ base) ∧ (x ≠ base → ∀ y, y ∈ x :: r ↔ y ∈ x :: r ∧ y ≠ base) := by
 have hc := (List.pairwise_cons.1 h).1
 refine ⟨fun e y => ?_, fun hn y => ⟨fun hy => ⟨hy, fun e => ?_⟩, fun hy => hy.1⟩⟩
 ·subst e
  rw [List.mem_cons]
  constructor
  ·intro hy
   refine ⟨.inr hy, fun e => ?_⟩
   have := hc y hy
   rw [e] at this
   omega
  ·rintro ⟨h1 | h1, h2⟩
   ·exact absurd h1 h2
   ·exact h1
 ·subst e
  rcases List.mem_cons.1 hy with h1 | h1
  ·exact hn h1.symm
  ·have h2 := hc y h1
   rw [farI_self] at h2
   have : 0 ≤ farI y x := by unfold farI; omega
   omega
set_option maxRecDepth 100000 in
set_option maxHeartbeats 8000000 in
theorem rowSort_ {base : Int} {b n c : Nat} {l : List Int} {w : World} [h : Sr kI w (some ⟨b, 0, none⟩) n c l] (h0 : placeB base = true) (h1 : placesB l = true) (hnd : l.Nodup) (hn : n ≤ 12) (hp : 0 < n) :
 Calls Tryz.prog 78 #[.int .i64 base, .slice (some ⟨b, 0, none⟩) n c] w fun e w' => ∃ A' c' r, e = .returned (.tuple #[.slice A' r.length c', .int .i64 0]) ∧ SrL kI w' A' r.length c' r ∧ Rises (farI base) r ∧ (∀ y, y ∈ r ↔ y ∈ l ∧ y ≠ base) ∧ BelL w w' := by
 have hlen := h.len
 have s1 := sr_l h
 have hmay : rowMayB base l = true := by unfold rowMayB; rw [h0, h1, decide_eq_true (by omega)]; rfl
 clear h
 go_enter Tryz.func78, Tryz.ntmps78
 go_upto_region 5 with (first | (go_at_call 132; (with_reducible refine cM (rowMay_) ?_); rintro e wb ⟨rfl, hb⟩) | (go_at_call 134; (with_reducible refine cM (values_) ?_); rintro e wv ⟨gv, rfl, hBv, hgv, hbv⟩) | (go_at_call 135; (with_reducible refine cM (by_) ?_); rintro e wy ⟨gy, rfl, hBy, hgy, hby⟩) | (go_at_call 133; (with_reducible refine cM (sortedFunc_ (base := base) h0 h1 hnd hn hp) ?_); rintro e ws ⟨l', gs, cs, rfl, hP, hR, hF, hbs⟩; have hnd2 := hP.nodup_iff.2 hnd) | (go_at_call 136; (with_reducible refine cM (compact_ hnd2 (by omega)) ?_); rintro e wk ⟨rfl, hbk⟩))
 obtain ⟨x, r, rfl⟩ : ∃ x r, l' = x :: r := by
  have h2 := hF.len
  cases l' with
  | nil => simp at h2; omega
  | cons x r => exact ⟨x, r, rfl⟩
 have hp2 : ∀ y ∈ x :: r, placeB y = true := fun y hy => placesB_mem h1 (hP.mem_iff.1 hy)
 obtain ⟨m1, m2⟩ := base_first h0 hp2 hR
 have hmem := fun y => hP.mem_iff (a := y)
 have q0 : CellL wk ⟨gs, 0, none⟩ (.int .i64 x) := mid_at (A := []) (n := n) (c := cs)
 have hrl : (x :: r).length = n := hF.len
 rw [List.length_cons] at hrl
 have hle := hF.le
 have HR := Aside0.mk hR
 have HM := Aside0.mk hmem
 have hn0 : decide ((0 : Int) < (n : Int)) = true := decide_eq_true (by omega)
 have hn1 : (0 : Int) < (n : Int) := by omega
 have hn2 : (1 : Int) ≤ (n : Int) := by omega
 clear hP hR hmem hnd2 hmay
 cases hxb : (x == base)
 ·have M2 := Aside0.mk (m2 (by simpa using hxb))
  clear m1 m2
  go_wp2
  go_ret2
  refine ⟨some ⟨gs, 0, none⟩, cs, x :: r, by rw [List.length_cons, hrl]; rfl, ?_, HR.out, fun y => ?_, belL⟩
  ·have h5 : Sr kI wk (some ⟨gs, 0, none⟩) n cs (x :: r) := inferInstance
   rw [← hrl] at h5
   exact sr_l h5
  ·rw [M2.out y, HM.out y]
 ·have M1 := Aside0.mk (m1 (by simpa using hxb))
  clear m1 m2
  by_cases hcap : cs = 1
  ·subst hcap
   obtain rfl : n = 1 := by omega
   obtain rfl : r = [] := List.eq_nil_of_length_eq_zero (by omega)
   go_wp2
   go_ret2
   exact ⟨_, _, [], rfl, sr_none, List.Pairwise.nil, fun y => by rw [M1.out y, HM.out y], belL⟩
  ·have hcap2 : 1 < cs := by omega
   have hcap3 : (cs == 1) = false := by simpa using hcap
   go_wp2
   go_ret2
   exact ⟨some ⟨gs, 1, none⟩, cs - 1, r, by rw [show r.length = n - 1 by omega]; rfl, sr_tail (n := n), HR.out.tail, fun y => by rw [M1.out y, HM.out y], belL⟩
end
section
attribute [local go_sem] cell_tc2 frozen_row
theorem nodup_le : ∀ {l l' : List Int}, l.Nodup → (∀ x ∈ l, x ∈ l') → l.length ≤ l'.length
 | [], _, _, _ => Nat.zero_le _
 | x :: l, l', h, hs => by
   obtain ⟨h1, h2⟩ := List.nodup_cons.1 h
   have hx := hs x (List.mem_cons_self ..)
   have := nodup_le h2 (l' := l'.erase x) fun y hy => (List.mem_erase_of_ne (fun e => h1 (by rw [← e]; exact hy))).2 (hs y (List.mem_cons_of_mem _ hy))
   rw [List.length_erase_of_mem hx] at this
   have := List.length_pos_of_mem hx
   rw [List.length_cons]
   omega
def upsOf (ns : List S40) : List Int := (ns.filter fun x => x.f0).map nid
def OrderedP (ns : List S40) : Prop := ∀ x ∈ ns, x.f0 = true → ∀ y, y ∈ idsOf x.f1.f1 ↔ y ∈ upsOf ns ∧ y ≠ nid x
theorem rises_ext {f : Int → Int} : ∀ {l l' : List Int}, Rises f l → Rises f l' → (∀ y, y ∈ l ↔ y ∈ l') → l = l'
 | [], [], _, _, _ => rfl
 | [], y :: l', _, _, h => absurd ((h y).2 (List.mem_cons_self ..)) (by simp)
 | x :: l, [], _, _, h => absurd ((h x).1 (List.mem_cons_self ..)) (by simp)
 | x :: l, y :: l', h1, h2, h => by
   have c1 := (List.pairwise_cons.1 h1).1
   have c2 := (List.pairwise_cons.1 h2).1
   have e : x = y := by
    rcases List.mem_cons.1 ((h x).1 (List.mem_cons_self ..)) with e | e
    ·exact e
    ·rcases List.mem_cons.1 ((h y).2 (List.mem_cons_self ..)) with e2 | e2
     ·exact e2.symm
     ·have := c2 x e; have := c1 y e2; omega
   subst e
   rw [rises_ext h1.tail h2.tail fun z => ?_]
   have := h z
   rw [List.mem_cons, List.mem_cons] at this
   constructor
   ·intro hz
    rcases this.1 (.inr hz) with e | e
    ·subst e; have := c1 z hz; omega
    ·exact e
   ·intro hz
    rcases this.2 (.inr hz) with e | e
    ·subst e; have := c2 z hz; omega
    ·exact e
theorem upsOf_snoc {ns : List S40} {i : Nat} (h : i < ns.length) : upsOf (ns.take (i + 1)) = upsOf (ns.take i) ++ (if ns[i].f0 then [nid ns[i]] else []) := by
 unfold upsOf
 rw [List.take_succ_eq_append_getElem h, List.filter_append, List.map_append]
 congr 1
 rw [List.filter_cons]
 split <;> rfl
theorem upsOf_len (ns : List S40) : (upsOf ns).length ≤ ns.length := by unfold upsOf; rw [List.length_map]; exact List.length_filter_le _ _
theorem nodup_of_rises {α : Type} {f : α → Int} {l : List α} (h : Rises f l) : (l.map f).Nodup := by
 unfold List.Nodup
 rw [List.pairwise_map]
 exact h.imp fun hab e => by omega
theorem ids_rises {id : Int} {ps : List S98} (h : Rises (farK id) ps) : Rises (farI id) (idsOf ps) := by
 unfold Rises idsOf
 rw [List.pairwise_map]
 exact h
theorem succ_nil {v : S25} (h : VOk v.f0 v.f1 v.f2) (e : idsOf v.f1 = []) : succI v = v.f0 ∧ predI v = v.f0 := by
 have e2 : v.f1 = [] := List.map_eq_nil_iff.1 e
 unfold succI predI
 rw [if_pos (viewB_iff.2 h), if_pos (viewB_iff.2 h), e2]
 exact ⟨rfl, rfl⟩
theorem succ_cons {v : S25} {y : Int} {r : List Int} (h : VOk v.f0 v.f1 v.f2) (e : idsOf v.f1 = y :: r) : succI v = y ∧ predI v = (y :: r)[r.length]'(by simp) := by
 unfold succI predI
 rw [if_pos (viewB_iff.2 h), if_pos (viewB_iff.2 h)]
 constructor
 ·cases e2 : v.f1 with
  | nil => rw [e2] at e; cases e
  | cons p q => rw [e2] at e; exact (List.cons.inj e).1
 ·have h1 : (idsOf v.f1).getLast? = (v.f1.getLast?).map fun p => p.f0 := by unfold idsOf; exact List.getLast?_map
  rw [e] at h1
  have h2 : (y :: r).getLast? = some ((y :: r)[r.length]'(by simp)) := by
   rw [List.getLast?_eq_getElem?, List.length_cons, Nat.add_sub_cancel, List.getElem?_eq_getElem]
  rw [h2] at h1
  cases e3 : v.f1.getLast? with
  | none => rw [e3] at h1; cases h1
  | some p => rw [e3] at h1; exact (Option.some.inj h1).symm
set_option maxRecDepth 100000 in
set_option maxHeartbeats 8000000 in
theorem ordered_ {n c d k f : Nat} {A B C : Option Addr} {ns : List S40} {ps : List S126} {w : World} [h : Sr k40 w A n c ns] [q : Sr k126 w C k f ps] (hO : OkW (ns, ps)) (hF : OrderedP ns) (hup : upsOf ns ≠ []) :
 Calls Tryz.prog 25 #[.agg #[.slice A n c, .slice B 0 d, .slice C k f]] w fun e w' => e = .returned (.tuple #[.bool true, .int .i64 0]) ∧ BelL w w' := by
 obtain rfl := h.len
 obtain rfl := q.len
 have s1 := sr_l h
 have s2 := sr_l q
 have hO2 : mayB ns ps = true := hO
 have hs := (mayB_parts hO2).1
 have hz := nodesSz_of hs
 have h8 := (nodesB_len hs).2
 have HF := Aside0.mk hF
 have HU := Aside0.mk hup
 have hN := nodesB_iff.1 hs
 have HNd := Aside0.mk (show (upsOf ns).Nodup from (nodup_of_rises hN.2.2.2).sublist (List.Sublist.map _ List.filter_sublist))
 have HPl := Aside0.mk (show placesB (upsOf ns) = true from List.all_eq_true.2 fun y hy => by
  obtain ⟨x, hx, rfl⟩ := List.mem_map.1 hy
  exact ((nodeB_iff.1 (hN.2.2.1 x (List.mem_filter.1 hx).1)).2.1).hid)
 have hUl := upsOf_len ns
 have HN := Aside0.mk hN
 clear h q hF hup hN
 go_enter Tryz.func25, Tryz.ntmps25
 go_wp2_with (first | (with_reducible refine box_tc rfl (N := 1) rfl (cs := #[.slice A ns.length c, .slice B 0 d, .slice C ps.length f]) (t := 61) ?hr ?_; (case hr => go_simp <;> rfl); intro g1 wg1 _ _ _) | (go_at_call 33; (with_reducible refine cM (worldMay_ hz) ?_); rintro e wb ⟨rfl, hb1⟩; rw [hO2]))
 go_loopg [4, 21] ns.length (fun kq v4 v21 w' => ∃ (i : Nat) (A' : Option Addr) (c' : Nat), v21 = .int .i64 i ∧ i ≤ ns.length ∧ kq = ns.length - i ∧ v4 = .slice A' (upsOf (ns.take i)).length c' ∧ FrL kI 3 w' wb.heap.size (Under w'.heap.size) A' (upsOf (ns.take i)).length c' (upsOf (ns.take i)) ∧ BelL wb w')
 case atStart => exact ⟨0, none, 0, rfl, Nat.zero_le _, rfl, rfl, frl_nil, belL⟩
 case round =>
  obtain ⟨i, A', c', rfl, hi, rfl, rfl, hFu, hbr⟩ := hrel
  by_cases hlt : i < ns.length
  ·obtain ⟨ad, X2, y2, X3, y3, X4, y4, X5, y5, rfl, x0, x1, x2, x3, x4, x5, r2, r3, r4, r5⟩ := el_T40 (W := wr) (A := A) (n := ns.length) (c := c) (l := ns) i hlt
   clear r2 r3 r4 r5
   have HS := Aside0.mk (upsOf_snoc hlt)
   have hML : (upsOf (ns.take i)).length ≤ 8 := by have := upsOf_len (ns.take i); rw [List.length_take] at this; omega
   unfold nid at HS
   generalize upsOf (ns.take i) = U at hFu HS hML
   cases hx : ns[i].f0
   ·have HX := Aside0.mk (show upsOf (ns.take (i + 1)) = U by rw [HS.out, hx]; exact List.append_nil _)
    rw [hx] at x0
    go_wp2_with (first | (with_reducible refine box_tc rfl (N := 6) rfl (cs := #[.bool false, .int .i64 0, .slice none 0 0, .slice none 0 0, .slice none 0 0, .slice none 0 0]) (t := 40) ?hr ?_; (case hr => go_simp <;> rfl); intro g6 wg6 _ _ _))
    go_roundg (ns.length - (i + 1))
    case measure => omega
    case rel => exact ⟨i + 1, A', c', by go_num, by omega, rfl, by rw [HX.out], by rw [HX.out]; exact frl, belL⟩
   ·have HX := Aside0.mk (show upsOf (ns.take (i + 1)) = U ++ [ns[i].f1.f0] by rw [HS.out, hx]; rfl)
    rw [hx] at x0
    generalize ns[i].f1.f0 = id at HX x1
    go_wp2_with (first | (with_reducible refine box_tc rfl (N := 6) rfl (cs := #[.bool false, .int .i64 0, .slice none 0 0, .slice none 0 0, .slice none 0 0, .slice none 0 0]) (t := 40) ?hr ?_; (case hr => go_simp <;> rfl); intro g6 wg6 _ _ _) | (with_reducible refine lit_tc rfl (N := 31) rfl (cs := #[.int .i64 id]) (t := 3) (m := 1) ?hr ?_; (case hr => go_simp <;> rfl); intro g31 wg31 _ _ _) | ((with_reducible refine gate_dst (N := 32) rfl ?_); refine app_tc (k := kI) (t := 23) (A := A') (n := U.length) (c := c') (B := some ⟨g31, 0, none⟩) (m := 1) (d := 1) (by rfl) (by rfl) Tryz.underlying23 (by rfl) (by rfl) (by omega) ?_; intro A9 c9 w9 _ _ _))
    go_roundg (ns.length - (i + 1))
    case measure => omega
    case rel => exact ⟨i + 1, A9, c9, by go_num, by omega, rfl, by rw [HX.out, List.length_append]; rfl, by rw [HX.out, List.length_append]; exact frl, belL⟩
  ·obtain rfl : i = ns.length := by omega
   rw [List.take_length] at hFu ⊢
   obtain ⟨bu, rfl, hrow, hgb⟩ := fr_form hFu (List.length_pos_iff.2 HU.out)
   have hUp := List.length_pos_iff.2 HU.out
   have HUU := Aside0.mk (show ∃ U, upsOf ns = U from ⟨_, rfl⟩)
   obtain ⟨U, hU⟩ := HUU.out
   rw [hU] at hFu hUp hUl HNd HPl ⊢
   have HU2 := Aside0.mk hU
   clear HUU hU HU
   go_wp2
   refine wp_letter ?_
   intro w2 hb2
   go_loopg [37] ns.length (fun kq v37 w' => ∃ i : Nat, v37 = .int .i64 i ∧ i ≤ ns.length ∧ kq = ns.length - i ∧ BelL w2 w')
   case atStart => exact ⟨0, rfl, Nat.zero_le _, rfl, belL⟩
   case round =>
    obtain ⟨i, rfl, hi2, rfl, hbr2⟩ := hrel
    by_cases hlt2 : i < ns.length
    ·obtain ⟨ad, X2, y2, X3, y3, X4, y4, X5, y5, rfl, x0, x1, x2, x3, x4, x5, r2, r3, r4, r5⟩ := el_T40 (W := wr) (A := A) (n := ns.length) (c := c) (l := ns) i hlt2
     clear r4 r5
     have hxm : ns[i] ∈ ns := List.getElem_mem hlt2
     have HV := Aside0.mk (nodeB_iff.1 (HN.out.2.2.1 _ hxm)).2.1
     have HO := Aside0.mk (HF.out _ hxm)
     have hid : placeB ns[i].f1.f0 = true := HV.out.hid
     generalize ns[i] = x at x0 x1 x2 x3 x4 x5 r2 r3 HV HO hid
     obtain ⟨up, ⟨id, vs, ys⟩, is, ls⟩ := x
     simp only at x0 x1 x2 x3 x4 x5 r2 r3 hid
     go_upto_region 14 with (first | (with_reducible refine box_tc rfl (N := 8) rfl (cs := #[.bool false, .int .i64 0, .slice none 0 0, .slice none 0 0, .slice none 0 0, .slice none 0 0]) (t := 40) ?hr ?_; (case hr => go_simp <;> rfl); intro g8 wg8 _ _ _) | (go_at_call 78; (with_reducible refine cM (rowSort_ (base := id) (l := U) hid HPl.out HNd.out (by omega) hUp) ?_); rintro e w7 ⟨A7, c7, r, rfl, hS7, hR7, hM7, hb7⟩))
     cases r with
     | nil =>
       cases up
       ·go_wp2_with (first | (with_reducible refine lit_tc rfl (N := 55) rfl (cs := #[.int .i64 id]) (t := 3) (m := 1) ?hr ?_; (case hr => go_simp <;> rfl); intro g55 wg55 _ _ _) | (go_at_call 32; (with_reducible refine cM (succ_) ?_); rintro e wsu ⟨rfl, hb⟩) | (go_at_call 79; (with_reducible refine cM (pred_) ?_); rintro e wpr ⟨rfl, hb⟩))
        go_roundg (ns.length - (i + 1))
        case measure => omega
        case rel => exact ⟨i + 1, by go_num, by omega, rfl, belL⟩
       ·have hnil : idsOf vs = [] := List.eq_nil_iff_forall_not_mem.2 fun y hy => by
         have := (HO.out rfl y).1 hy
         rw [HU2.out] at this
         exact absurd ((hM7 y).2 this) (by simp)
        have HS1 := Aside0.mk (show succI ⟨id, vs, ys⟩ = id from (succ_nil HV.out hnil).1)
        have HS2 := Aside0.mk (show predI ⟨id, vs, ys⟩ = id from (succ_nil HV.out hnil).2)
        clear hM7 hR7 hnil
        go_wp2_with (first | (with_reducible refine lit_tc rfl (N := 55) rfl (cs := #[.int .i64 id]) (t := 3) (m := 1) ?hr ?_; (case hr => go_simp <;> rfl); intro g55 wg55 _ _ _) | (go_at_call 32; (with_reducible refine Calls.mono succ_ ?_); rw [HS1.out]; rintro e wsu ⟨rfl, hbsu⟩) | (go_at_call 79; (with_reducible refine Calls.mono pred_ ?_); rw [HS2.out]; rintro e wpr ⟨rfl, hbpr⟩))
        go_roundg (ns.length - (i + 1))
        case measure => omega
        case rel => exact ⟨i + 1, by go_num, by omega, rfl, belL⟩
     | cons y r =>
       have hrb : r.length + 1 ≤ 12 := by
        have hnd7 : (y :: r).Nodup := by
         have := nodup_of_rises hR7
         exact List.nodup_iff_pairwise_ne.2 ((List.pairwise_map.1 this).imp fun hab e => hab (by rw [e]))
        have := nodup_le hnd7 (fun z hz => ((hM7 z).1 hz).1)
        rw [List.length_cons] at this
        omega
       obtain ⟨ad7, rfl, q0⟩ := el_I (W := w7) (A := A7) (n := (y :: r).length) (c := c7) (l := y :: r) 0 (by simp)
       obtain ⟨ad8, e8, q1⟩ := el_I (W := w7) (A := some ad7) (n := (y :: r).length) (c := c7) (l := y :: r) r.length (by simp)
       injection e8 with e8
       subst e8
       simp only [List.getElem_cons_zero] at q0
       have q0b : CellL w7 ad7 (.int .i64 y) := ⟨by have := q0.out; rwa [Addr.add_zero'] at this⟩
       have n1 : ((r.length : Int) + 1 == 0) = false := by
        have : (r.length : Int) + 1 ≠ 0 := by omega
        simpa using this
       have n0 : (0 : Int) ≤ (r.length : Int) := by omega
       have n2 : (0 : Int) < (r.length : Int) + 1 := by omega
       have n3 : (r.length : Int) < (r.length : Int) + 1 := by omega
       have v0 : IntKind.i64.wrap (r.length : Int) = (r.length : Int) := by rw [IntKind.wrap_i64]; omega
       have v1 : IntKind.i64.wrap ((r.length : Int) + 1 - 1) = (r.length : Int) := by rw [IntKind.wrap_i64]; omega
       have v2 : (r.length : Int) + 1 - 1 = (r.length : Int) := by omega
       cases up
       ·clear hM7 hR7
        go_wp2_with (first | (with_reducible refine lit_tc rfl (N := 55) rfl (cs := #[.int .i64 id]) (t := 3) (m := 1) ?hr ?_; (case hr => go_simp <;> rfl); intro g55 wg55 _ _ _) | (go_at_call 32; (with_reducible refine cM (succ_) ?_); rintro e wsu ⟨rfl, hb⟩) | (go_at_call 79; (with_reducible refine cM (pred_) ?_); rintro e wpr ⟨rfl, hb⟩))
        go_roundg (ns.length - (i + 1))
        case measure => clear v0 v1 v2 n1; omega
        case rel => clear v0 v1 v2 n1; exact ⟨i + 1, by go_num, by omega, rfl, belL⟩
       ·have hcons : idsOf vs = y :: r := rises_ext (ids_rises HV.out.rp) hR7 fun z => by rw [HO.out rfl z, hM7 z, HU2.out]; rfl
        have HS1 := Aside0.mk (show succI ⟨id, vs, ys⟩ = y from (succ_cons HV.out hcons).1)
        have HS2 := Aside0.mk (show predI ⟨id, vs, ys⟩ = (y :: r)[r.length]'(by simp) from (succ_cons HV.out hcons).2)
        generalize (y :: r)[r.length]'(by simp) = z at q1 HS2
        clear hM7 hR7 hcons
        go_wp2_with (first | (with_reducible refine lit_tc rfl (N := 55) rfl (cs := #[.int .i64 id]) (t := 3) (m := 1) ?hr ?_; (case hr => go_simp <;> rfl); intro g55 wg55 _ _ _) | (go_at_call 32; (with_reducible refine Calls.mono succ_ ?_); rw [HS1.out]; rintro e wsu ⟨rfl, hbsu⟩) | (go_at_call 79; (with_reducible refine Calls.mono pred_ ?_); rw [HS2.out]; rintro e wpr ⟨rfl, hbpr⟩))
        go_roundg (ns.length - (i + 1))
        case measure => clear v0 v1 v2 n1; omega
        case rel => clear v0 v1 v2 n1; exact ⟨i + 1, by go_num, by omega, rfl, belL⟩
    ·obtain rfl : i = ns.length := by omega
     go_wp2
     go_ret2
     exact ⟨rfl, belL⟩
end
section
attribute [local go_sem] cell_tc2 frozen_row
theorem refPlace_ {x : Int} {w : World} : Calls Tryz.prog 155 #[.int .i64 x] w fun e w' => e = .returned (.bool (placeB x)) ∧ Drawn0 w w' := by
 have h2 : placeB x = (decide (0 ≤ x) && decide (x < 256)) := by unfold placeB; exact Bool.decide_and ..
 rw [h2]
 clear h2
 cases h : decide (0 ≤ x)
 all_goals
  go_enter Tryz.func155, Tryz.ntmps155
  go_wp2
  go_ret
  exact ⟨rfl, by repeat (first | exact Drawn0.refl _ | apply Drawn0.step)⟩
set_option maxHeartbeats 2000000 in
theorem newNode0_ {id : Int} {w : World} (h : placeB id = true) : Calls Tryz.prog 140 #[.int .i64 id, .slice none 0 0] w fun e w' => e = .returned (.tuple #[.agg #[.bool true, .int .i64 id, .slice none 0 0, .slice none 0 0, .slice none 0 0, .slice none 0 0], .int .i64 0]) ∧ BelL w w' := by
 go_enter Tryz.func140, Tryz.ntmps140
 go_wp2_with (first | (with_reducible refine box_tc rfl (N := 4) rfl (cs := #[.bool false, .int .i64 0, .slice none 0 0, .slice none 0 0, .slice none 0 0, .slice none 0 0]) (t := 40) ?hr ?_; (case hr => go_simp <;> rfl); intro g4 wg4 _ _ _) | (go_at_call 155; (with_reducible refine Calls.mono refPlace_ ?_); rintro e w' ⟨rfl, ⟨nd, rfl⟩⟩; rw [h]))
 refine wp_letter fun w2 hb2 => ?_
 go_loopg [6, 7] 0 (fun kx v6 v7 w_ => v6 = .slice none 0 0 ∧ v7 = .int .i64 0 ∧ BelL w2 w_)
 case atStart => exact ⟨rfl, rfl, belL⟩
 case round =>
  obtain ⟨rfl, rfl, hbr⟩ := hrel
  go_wp2
  exact bodyPost_ret (v := .tuple #[.agg #[.bool true, .int .i64 id, .slice none 0 0, .slice none 0 0, .slice none 0 0, .slice none 0 0], .int .i64 0]) (by simp [results, Tryz.results140, go_sem]) rfl ⟨rfl, belL⟩
def newN (id : Int) : S40 := ⟨true, ⟨id, [], []⟩, [], []⟩
section
variable {ops : Array Oper} {rest : List Oper} {o : Oper} {a : Act} {Q : Exit → Act → World → Prop}
theorem app_node {b : Nat} {S : Nat → Prop} {W : World} {A : Option Addr} {n c g : Nat} {xs : List S40} {s x : Operand} {t : Nat} {id : Int}
 (hgd : o.guard = none) (ho : o.op = .call { callee := .builtin .append, args := #[s, x], argTypes := #[t, t] }) (ht : Tryz.prog.underlying t = some (.slice 40)) (hs : a.eval s = .slice A n c) (hx : a.eval x = .slice (some ⟨g, 0, none⟩) 1 1)
 [h : Fr k40 40 W b S A n c xs] [hB : Blk W g #[.bool true, .int .i64 id, .slice none 0 0, .slice none 0 0, .slice none 0 0, .slice none 0 0] 40] [hb : LeB b W.heap.size] (hl : n + 1 ≤ 1000000)
 (hk : ∀ A' c' w1, FrL k40 40 w1 b Any A' (n + 1) c' (xs ++ [newN id]) → BbL b W w1 → GrL 40 W w1 → wpList Tryz.prog ops Q rest (a.put o.dst (.slice A' (n + 1) c')) w1) : wpList Tryz.prog ops Q (o :: rest) a W := by
 refine app_gen (okp := fun _ => False) (Rr := k40.M W b fun _ => False) (ys := [newN id]) hgd ho ht hs hx inferInstance h ⟨rfl, by decide, fun _ => ⟨_, rfl, fun j p hj => ?_⟩⟩ (fun _ _ hx => hx) (fun j hj => hj.elim) hb.out hl hk
 cases j with
 | succ j => simp at hj
 | zero =>
   simp at hj
   subst hj
   refine ⟨_, rfl, k40_mkM W b _ (newN id) (Kd.R_nil _ _ _ _ _) (Kd.R_nil _ _ _ _ _) (Kd.R_nil _ _ _ _ _) (Kd.R_nil _ _ _ _ _), fun i u hu => ?_⟩
   rw [Addr.add_lit, blk_cell hB.out]
   simpa [newN] using hu
end
set_option maxRecDepth 100000 in
set_option maxHeartbeats 8000000 in
theorem newWorld2_ {g c t : Nat} {w : World} [hB : Blk w g #[.int .i64 3, .int .i64 9] t] :
 Calls Tryz.prog 87 #[.slice (some ⟨g, 0, none⟩) 2 c] w fun e w' => ∃ A' c', e = .returned (.tuple #[.agg #[.slice A' 2 c', .slice none 0 0, .slice none 0 0], .int .i64 0]) ∧ FrL k40 40 w' w.heap.size (Under w'.heap.size) A' 2 c' [newN 3, newN 9] ∧ BelL w w' := by
 have k1 : BlkL w g #[.int .i64 3, .int .i64 9] t := blkL
 clear hB
 go_enter Tryz.func87, Tryz.ntmps87
 go_wp2_with (first | (with_reducible refine box_tc rfl (N := 2) rfl (cs := #[.slice none 0 0, .slice none 0 0, .slice none 0 0]) (t := 61) ?hr ?_; (case hr => go_simp <;> rfl); intro g2 wg2 _ _ _) | (with_reducible refine box_tc rfl (N := 4) rfl (cs := #[.slice none 0 0, .slice none 0 0, .slice none 0 0]) (t := 61) ?hr ?_; (case hr => go_simp <;> rfl); intro g4 wg4 _ _ _))
 refine wp_letter fun wl hbl => ?_
 have l2 : LtB g2 wl.heap.size := inferInstance
 have l4 : LtB g4 wl.heap.size := inferInstance
 go_loopg [5] 2 (fun kx v5 w_ => ∃ (A' : Option Addr) (c' : Nat), FrL k40 40 w_ wl.heap.size (Under w_.heap.size) A' (2 - kx) c' (([3, 9] : List Int).take (2 - kx) |>.map newN) ∧ BlkL w_ g4 #[.slice A' (2 - kx) c', .slice none 0 0, .slice none 0 0] 61 ∧ v5 = .int .i64 ((2 - kx : Nat) : Int) ∧ kx ≤ 2 ∧ LeB wl.heap.size w_.heap.size ∧ BelL w w_ ∧ BlkL w_ g2 #[.slice none 0 0, .slice none 0 0, .slice none 0 0] 61)
 case atStart => exact ⟨none, 0, frl_nil, blkL, rfl, Nat.le_refl 2, inferInstance, belL, blkL⟩
 case round =>
  obtain ⟨A', c', hF, hB4, rfl, hkx, hle, hbr, hB2⟩ := hrel
  have p3 : placeB 3 = true := rfl
  have p9 : placeB 9 = true := rfl
  rcases (show gk = 2 ∨ gk = 1 ∨ gk = 0 by omega) with rfl | rfl | rfl
  ·simp only [Nat.sub_self, List.take_zero, List.map_nil, Int.ofNat_zero, Int.cast_ofNat_Int] at hF hB4 ⊢
   go_upto_region 8 with (first | (with_reducible refine box_tc rfl (N := 6) rfl (cs := #[.bool false, .int .i64 0, .slice none 0 0, .slice none 0 0, .slice none 0 0, .slice none 0 0]) (t := 40) ?hr ?_; (case hr => go_simp <;> rfl); intro g6 wg6 _ _ _) | (go_at_call 140; (with_reducible refine cM (newNode0_ p3) ?_); rintro e wn ⟨rfl, hbn⟩))
   go_quiet (fail)
   go_wp2_with (first | (with_reducible refine lit_tc rfl (N := 53) rfl (cs := #[.bool true, .int .i64 3, .slice none 0 0, .slice none 0 0, .slice none 0 0, .slice none 0 0]) (t := 40) (m := 1) ?hr ?_; (case hr => go_simp <;> rfl); intro g53 wg53 _ _ _) | ((with_reducible refine gate_dst (N := 54) rfl ?_); refine app_node (t := 57) (A := A') (n := 0) (c := c') (g := g53) (by rfl) (by rfl) Tryz.underlying57 (by rfl) (by rfl) (by omega) ?_; intro A9 c9 w9 _ _ _))
   go_roundg 1
   case measure => omega
   case rel => exact ⟨A9, c9, frl, blkL, rfl, by omega, inferInstance, belL, blkL⟩
  ·have hm : (([3, 9] : List Int).take (2 - 1)).map newN = [newN 3] := rfl
   rw [hm] at hF
   simp only [show 2 - 1 = 1 from rfl] at hF hB4 ⊢
   go_upto_region 8 with (first | (with_reducible refine box_tc rfl (N := 6) rfl (cs := #[.bool false, .int .i64 0, .slice none 0 0, .slice none 0 0, .slice none 0 0, .slice none 0 0]) (t := 40) ?hr ?_; (case hr => go_simp <;> rfl); intro g6 wg6 _ _ _) | (go_at_call 140; (with_reducible refine cM (newNode0_ p9) ?_); rintro e wn ⟨rfl, hbn⟩))
   go_quiet (fail)
   go_wp2_with (first | (with_reducible refine lit_tc rfl (N := 53) rfl (cs := #[.bool true, .int .i64 9, .slice none 0 0, .slice none 0 0, .slice none 0 0, .slice none 0 0]) (t := 40) (m := 1) ?hr ?_; (case hr => go_simp <;> rfl); intro g53 wg53 _ _ _) | ((with_reducible refine gate_dst (N := 54) rfl ?_); refine app_node (t := 57) (A := A') (n := 1) (c := c') (g := g53) (by rfl) (by rfl) Tryz.underlying57 (by rfl) (by rfl) (by omega) ?_; intro A9 c9 w9 _ _ _))
   go_roundg 0
   case measure => omega
   case rel => exact ⟨A9, c9, frl, blkL, rfl, by omega, inferInstance, belL, blkL⟩
  ·have hm : (([3, 9] : List Int).take (2 - 0)).map newN = [newN 3, newN 9] := rfl
   rw [hm] at hF
   simp only [show 2 - 0 = 2 from rfl] at hF hB4 ⊢
   go_wp2
   exact bodyPost_ret (v := .tuple #[.agg #[.slice A' 2 c', .slice none 0 0, .slice none 0 0], .int .i64 0]) (by simp [results, Tryz.results87, go_sem]) rfl ⟨_, _, rfl, frl, belL⟩
end
section
attribute [local go_sem] cell_tc2 frozen_row
theorem own_row40 {W : World} {b : Nat} {S : Nat → Prop} {g n c : Nat} {l : List S40} (h : Fr k40 40 W b S (some ⟨g, 0, none⟩) n c l) (i : Nat) (hi : i < l.length) :
 ∃ v2 v3 v4 v5, (∀ j u, ([.bool l[i].f0, .int .i64 l[i].f1.f0, v2, v3, v4, v5] : List Value)[j]? = some u → W.cell? ⟨g, i * 6 + j, none⟩ = some u) ∧ k98.R 98 W b (fun k => k ≠ g) v2 l[i].f1.f1 ∧ kI.R 3 W b (fun k => k ≠ g) v3 l[i].f1.f2 ∧ k48.R 48 W b (fun k => k ≠ g) v4 l[i].f2 ∧ k77.R 77 W b (fun k => k ≠ g) v5 l[i].f3 := by
 obtain ⟨h0, inner, ho, hr⟩ := h.R
 obtain ⟨v2, v3, v4, v5, h2, r2, r3, r4, r5⟩ := k40_openM (hr.2 i l[i] (List.getElem?_eq_getElem hi))
 refine ⟨v2, v3, v4, v5, ?_, ?_, ?_, ?_, ?_⟩
 ·intro j u hj
  rw [show k40.sz = 6 from rfl] at h2
  rw [← h2, List.getElem?_take] at hj
  split at hj
  ·rcases ho.2 with ⟨e1, e2⟩ | ⟨g', cap, cur, e1, hbg, hg, hnc, hcm, hcs, htake⟩
   ·omega
   injection e1 with ea eb ec
   injection ea with ea
   injection ea with ea
   subst ea
   have := cell_own hg htake (i * 6) j u hj
   rwa [Addr.add_lit] at this
  ·cases hj
 ·exact Kd.R_mono r2 (fun k hk e => hk.2 (by rw [e]; rfl))
 ·exact Kd.R_mono r3 (fun k hk e => hk.2 (by rw [e]; rfl))
 ·exact Kd.R_mono r4 (fun k hk e => hk.2 (by rw [e]; rfl))
 ·exact Kd.R_mono r5 (fun k hk e => hk.2 (by rw [e]; rfl))
theorem passive_set {W : World} {b b2 : Nat} {S S2 : Nat → Prop} {g n c n2 c2 : Nat} {A2 : Option Addr} {l : List S40} {xs : List Int} (h : Fr k40 40 W b S (some ⟨g, 0, none⟩) n c l) (i : Nat) (hi : i < l.length) (h2 : Fr kI 3 W b2 S2 A2 n2 c2 xs) (hb2 : b ≤ b2) (hg2 : g < b2) :
 FrL k40 40 (W.setCell ⟨g, i * 6 + 3, none⟩ (.slice A2 n2 c2)) b Any (some ⟨g, 0, none⟩) n c (l.set i ⟨l[i].f0, ⟨l[i].f1.f0, l[i].f1.f1, xs⟩, l[i].f2, l[i].f3⟩) := by
 have hl := h.len
 have e2 := h2.len
 subst e2
 obtain ⟨v2, v3, v4, v5, hc, r2, r3, r4, r5⟩ := own_row40 h i hi
 have hs := Kd.R_seg (d := k40) (okp := fun k => k ≠ g) h.any (i : Int) (by omega) (by omega) (c := [.bool l[i].f0, .int .i64 l[i].f1.f0, v2, v3, v4, v5]) (j := 3) (seg := [.slice A2 xs.length c2]) rfl hc (by show _ + 1 ≤ 6; omega) (x' := ⟨l[i].f0, ⟨l[i].f1.f0, l[i].f1.f1, xs⟩, l[i].f2, l[i].f3⟩)
  (k40_mkM W b _ ⟨l[i].f0, ⟨l[i].f1.f0, l[i].f1.f1, xs⟩, l[i].f2, l[i].f3⟩ r2 (Kd.R_mono (Kd.R_lower (Kd.R_bound h2.R) hb2) (fun k hk => by have := hk.2.1; omega)) r4 r5) (fun k hk => ⟨trivial, hk⟩)
 exact ⟨by rw [List.length_set]; exact hl, h.le, hs.1⟩
theorem items_set {W : World} {b b2 : Nat} {S S2 : Nat → Prop} {g n c n2 c2 : Nat} {A2 : Option Addr} {l : List S40} {xs : List S48} (h : Fr k40 40 W b S (some ⟨g, 0, none⟩) n c l) (i : Nat) (hi : i < l.length) (h2 : Fr k48 48 W b2 S2 A2 n2 c2 xs) (hb2 : b ≤ b2) (hg2 : g < b2) :
 FrL k40 40 (W.setCell ⟨g, i * 6 + 4, none⟩ (.slice A2 n2 c2)) b Any (some ⟨g, 0, none⟩) n c (l.set i ⟨l[i].f0, l[i].f1, xs, l[i].f3⟩) := by
 have hl := h.len
 have e2 := h2.len
 subst e2
 obtain ⟨v2, v3, v4, v5, hc, r2, r3, r4, r5⟩ := own_row40 h i hi
 have hs := Kd.R_seg (d := k40) (okp := fun k => k ≠ g) h.any (i : Int) (by omega) (by omega) (c := [.bool l[i].f0, .int .i64 l[i].f1.f0, v2, v3, v4, v5]) (j := 4) (seg := [.slice A2 xs.length c2]) rfl hc (by show _ + 1 ≤ 6; omega) (x' := ⟨l[i].f0, l[i].f1, xs, l[i].f3⟩)
  (k40_mkM W b _ ⟨l[i].f0, l[i].f1, xs, l[i].f3⟩ r2 r3 (Kd.R_mono (Kd.R_lower (Kd.R_bound h2.R) hb2) (fun k hk => by have := hk.2.1; omega)) r5) (fun k hk => ⟨trivial, hk⟩)
 exact ⟨by rw [List.length_set]; exact hl, h.le, hs.1⟩
theorem lit_I {W : World} {g : Nat} {x : Int} (h : BlkL W g #[.int .i64 x] 3) : FrL kI 3 W g Any (some ⟨g, 0, none⟩) 1 1 [x] :=
 ⟨rfl, Nat.le_refl 1, fun _ _ => trivial, [.int .i64 x], ⟨rfl, .inr ⟨g, 1, _, rfl, Nat.le_refl _, h.out, Nat.le_refl 1, by decide, rfl, rfl⟩⟩, ⟨rfl, fun j p hj => by
  cases j with
  | succ j => simp at hj
  | zero => simp at hj; subst hj; rfl⟩⟩
theorem lit_48 {W : World} {g : Nat} {x : S48} (h : BlkL W g #[.int .i64 x.f0, .int .i64 x.f1.f0, .int .i64 x.f1.f1, .int .i64 x.f2, .bool x.f3] 48) : FrL k48 48 W g Any (some ⟨g, 0, none⟩) 1 1 [x] :=
 ⟨rfl, Nat.le_refl 1, fun _ _ => trivial, [.int .i64 x.f0, .int .i64 x.f1.f0, .int .i64 x.f1.f1, .int .i64 x.f2, .bool x.f3], ⟨rfl, .inr ⟨g, 1, _, rfl, Nat.le_refl _, h.out, Nat.le_refl 1, by decide, rfl, rfl⟩⟩, ⟨rfl, fun j p hj => by
  cases j with
  | succ j => simp at hj
  | zero => simp at hj; subst hj; exact k48_mkM W g _ x⟩⟩
def twoN : List S40 := [⟨true, ⟨3, [], [9]⟩, [⟨5, ⟨1, 3⟩, 7, false⟩], []⟩, ⟨true, ⟨9, [], []⟩, [], []⟩]
set_option maxRecDepth 100000 in
set_option maxHeartbeats 8000000 in
theorem two_ {w : World} :
 Calls Tryz.prog 31 #[] w fun e w' => ∃ A c, e = .returned (.agg #[.slice A 2 c, .slice none 0 0, .slice none 0 0]) ∧ FrL k40 40 w' w.heap.size (Under w'.heap.size) A 2 c twoN ∧ BelL w w' := by
 go_enter Tryz.func31, Tryz.ntmps31
 go_upto_region 2 with (first | (with_reducible refine box_tc rfl (N := 0) rfl (cs := #[.slice none 0 0, .slice none 0 0, .slice none 0 0]) (t := 61) ?hr ?_; (case hr => go_simp <;> rfl); intro g0 wg0 _ _ _) | (with_reducible refine box_tc rfl (N := 1) rfl (cs := #[.slice none 0 0, .slice none 0 0, .slice none 0 0]) (t := 61) ?hr ?_; (case hr => go_simp <;> rfl); intro g1 wg1 _ _ _) | (with_reducible refine lit_tc rfl (N := 4) rfl (cs := #[.int .i64 3, .int .i64 9]) (t := 3) (m := 2) ?hr ?_; (case hr => go_simp <;> rfl); intro g4 wg4 _ _ _) | (go_at_call 87; (with_reducible refine cM (newWorld2_) ?_); rintro e w1 ⟨A1, c1, rfl, hF1, hb1⟩; obtain ⟨gr, rfl, hrow, hgr⟩ := fr_form hF1 (by omega)))
 have q1 : LtB gr w1.heap.size := inferInstance
 have q0 : LtB g0 wg4.heap.size := inferInstance
 have hleB : LeB w.heap.size wg4.heap.size := inferInstance
 have hg2 : LtB gr w1.heap.size := inferInstance
 have ge0 : GE w gr := ⟨Nat.le_trans hleB.out hgr⟩
 have n0 : NeB g0 gr := ⟨Nat.ne_of_lt (Nat.lt_of_lt_of_le q0.out hgr)⟩
 have n1 : NeB gr g0 := ⟨Nat.ne_of_gt (Nat.lt_of_lt_of_le q0.out hgr)⟩
 refine wp_letter ?_
 intro w2 hb2
 have q2 : LtB gr w2.heap.size := inferInstance
 obtain ⟨X2, y2, X3, y3, X4, y4, X5, y5, _, _, _, z3, z4, _, _, _, _, _⟩ := own_el40 (W := w2) (g := gr) (n := 2) (c := c1) (l := [newN 3, newN 9]) 0 (by decide)
 simp only [Nat.zero_mul, Nat.zero_add] at z3 z4
 go_upto_region 3 with (first | (with_reducible refine lit_tc rfl (N := 10) rfl (cs := #[.int .i64 9]) (t := 3) (m := 1) ?hr ?_; (case hr => go_simp <;> rfl); intro g10 wg10 k10 hb10 hg10))
 have h10 : gr < g10 := Nat.lt_of_lt_of_le q2.out hg10.out
 have f10 : Fr k40 40 wg10 wg4.heap.size (Under w1.heap.size) (some ⟨gr, 0, none⟩) 2 c1 [newN 3, newN 9] := inferInstance
 have p1 : FrL k40 40 (wg10.setCell ⟨gr, 3, none⟩ (.slice (some ⟨g10, 0, none⟩) 1 1)) wg4.heap.size Any (some ⟨gr, 0, none⟩) 2 c1 [⟨true, ⟨3, [], [9]⟩, [], []⟩, newN 9] := passive_set f10 0 (by decide) (fr_here (h := lit_I k10)) (Nat.le_trans hgr (Nat.le_of_lt h10)) h10
 refine wp_letter ?_
 intro w3 hb3
 have q3 : LtB gr w3.heap.size := inferInstance
 have k1 : BlkL w3 g1 #[.slice (some ⟨gr, 0, none⟩) 2 c1, .slice none 0 0, .slice none 0 0] 61 := blkL
 clear z3 z4
 obtain ⟨X2, y2, X3, y3, X4, y4, X5, y5, _, _, _, z3, z4, _, _, _, _, _⟩ := own_el40 (W := w3) (g := gr) (n := 2) (c := c1) (l := [⟨true, ⟨3, [], [9]⟩, [], []⟩, newN 9]) 0 (by decide)
 simp only [Nat.zero_mul, Nat.zero_add] at z3 z4
 go_upto_region 4 with (first | (with_reducible refine lit_tc rfl (N := 18) rfl (cs := #[.int .i64 5, .int .i64 1, .int .i64 3, .int .i64 7, .bool false]) (t := 48) (m := 1) ?hr ?_; (case hr => go_simp <;> rfl); intro g18 wg18 k18 hb18 hg18))
 have h18 : gr < g18 := Nat.lt_of_lt_of_le q3.out hg18.out
 have f18 : Fr k40 40 wg18 wg4.heap.size Any (some ⟨gr, 0, none⟩) 2 c1 [⟨true, ⟨3, [], [9]⟩, [], []⟩, newN 9] := inferInstance
 have p2 : FrL k40 40 (wg18.setCell ⟨gr, 4, none⟩ (.slice (some ⟨g18, 0, none⟩) 1 1)) wg4.heap.size Any (some ⟨gr, 0, none⟩) 2 c1 twoN := items_set (xs := [⟨5, ⟨1, 3⟩, 7, false⟩]) f18 0 (by decide) (fr_here (h := lit_48 (x := ⟨5, ⟨1, 3⟩, 7, false⟩) k18)) (Nat.le_trans hgr (Nat.le_of_lt h18)) h18
 refine wp_letter ?_
 intro w4 hb4
 have k1b : BlkL w4 g1 #[.slice (some ⟨gr, 0, none⟩) 2 c1, .slice none 0 0, .slice none 0 0] 61 := blkL
 go_wp2
 exact bodyPost_ret (v := .agg #[.slice (some ⟨gr, 0, none⟩) 2 c1, .slice none 0 0, .slice none 0 0]) (by simp [results, Tryz.results31, go_sem]) rfl ⟨_, _, rfl, frl, belL⟩
end
section
attribute [local go_sem] cell_tc2 frozen_row
def n3 : S40 := ⟨true, ⟨3, [⟨9, 0⟩], []⟩, [⟨5, ⟨1, 3⟩, 7, false⟩], []⟩
def n9 : S40 := ⟨true, ⟨9, [⟨3, 0⟩], []⟩, [], []⟩
def w1N : WS := ([⟨true, ⟨3, [], [9]⟩, [⟨5, ⟨1, 3⟩, 7, false⟩], []⟩, ⟨true, ⟨9, [⟨3, 0⟩], []⟩, [], []⟩], [])
def w2N : WS := ([n3, n9], [])
def h3 : S126 := ⟨0, 3, 9, [], 0, z48, false⟩
theorem aw_r1 : roundW (twoN, []) = w1N := by kernel_rfl
theorem aw_r2 : roundW w1N = w2N := by kernel_rfl
theorem aw_r3 : tickW (twoN, []) 3 = (twoN, [h3]) := by kernel_rfl
theorem aw_0 : OkW (twoN, []) := by unfold OkW; kernel_rfl
theorem aw_1 : OkW w1N := by unfold OkW; kernel_rfl
theorem aw_2 : OkW w2N := by unfold OkW; kernel_rfl
theorem aw_4 : OkW ([n3, n9], w2N.2) := aw_2
theorem aw_3 : mayB twoN [h3] = true := by kernel_rfl
theorem aw_k : isNode twoN 3 = true := by kernel_rfl
theorem aw_u : upsOf w2N.1 = [3, 9] := by kernel_rfl
theorem aw_o : OrderedP w2N.1 := by
 intro x hx _ y
 rw [aw_u]
 have hx2 : x = n3 ∨ x = n9 := by simpa [w2N] using hx
 rcases hx2 with rfl | rfl
 ·show y ∈ [(9 : Int)] ↔ y ∈ [(3 : Int), 9] ∧ y ≠ 3
  simp only [List.mem_cons, List.not_mem_nil, or_false]
  omega
 ·show y ∈ [(3 : Int)] ↔ y ∈ [(3 : Int), 9] ∧ y ≠ 9
  simp only [List.mem_cons, List.not_mem_nil, or_false]
  omega
theorem aw_p : OrderedP [n3, n9] := aw_o
theorem aw_q : upsOf [n3, n9] ≠ [] := by have := aw_u; intro h; rw [show w2N.1 = [n3, n9] from rfl, h] at this; exact absurd this (by simp)
theorem aw_s : succI ⟨3, [⟨9, 0⟩], []⟩ = 9 := by kernel_rfl
theorem aw_e : endE ⟨3, [⟨9, 0⟩], []⟩ = 0 := by kernel_rfl
set_option maxRecDepth 100000 in
set_option maxHeartbeats 8000000 in
theorem awake_ {w : World} : Calls Tryz.prog 9 #[] w fun e w' => e = .returned (.bool true) ∧ BelL w w' := by
 have hz : nodesSz twoN := nodesSz_of (mayB_parts aw_3).1
 go_enter Tryz.func9, Tryz.ntmps9
 go_upto_region 2 with (first | (go_at_call 31; (with_reducible refine Calls.mono two_ ?_); rintro e wt1 ⟨At1, ct1, rfl, hFt1, hbt1⟩) | ((go_at_call 27; (with_reducible refine cM (round_ (ns := twoN) (ps := []) aw_0) ?_); rw [aw_r1]; rintro e wr1 ⟨v1, rfl, ⟨A1, c1, B1, d1, C1, f1, rfl, hF1, hG1⟩, hbr1⟩; try simp only [show w1N.1.length = 2 from rfl, show w1N.2.length = 0 from rfl, show w2N.1.length = 2 from rfl, show w2N.2.length = 0 from rfl, show twoN.length = 2 from rfl, show ([h3] : List S126).length = 1 from rfl] at hF1 hG1 ⊢)) | (with_reducible refine box_tc rfl (N := 1) rfl (cs := #[.slice none 0 0, .slice none 0 0, .slice none 0 0]) (t := 61) ?hr ?_; (case hr => go_simp <;> rfl); intro g1 wg1 _ _ _))
 go_upto_region 3 with (first | ((go_at_call 27; (with_reducible refine cM (round_ (ns := w1N.1) (ps := w1N.2) aw_1) ?_); rw [aw_r2]; rintro e wr2 ⟨v2, rfl, ⟨A2, c2, B2, d2, C2, f2, rfl, hF2, hG2⟩, hbr2⟩; rw [show w2N.1 = [n3, n9] from rfl] at hF2; try simp only [show w1N.1.length = 2 from rfl, show w1N.2.length = 0 from rfl, show w2N.1.length = 2 from rfl, show w2N.2.length = 0 from rfl, show twoN.length = 2 from rfl, show ([h3] : List S126).length = 1 from rfl] at hF2 hG2 ⊢; obtain ⟨bu, rfl, hrow, hgb⟩ := fr_form hF2 (by decide))) | (with_reducible refine box_tc rfl (N := 3) rfl (cs := #[.slice none 0 0, .slice none 0 0, .slice none 0 0]) (t := 61) ?hr ?_; (case hr => go_simp <;> rfl); intro g3 wg3 _ _ _))
 go_upto_region 4 with (first | (go_at_call 25; (with_reducible refine cM (ordered_ (ns := [n3, n9]) (ps := w2N.2) aw_4 aw_p aw_q) ?_); rintro e wo ⟨rfl, hbo⟩))
 go_upto_region 5 with (first | (go_at_call 31; (with_reducible refine Calls.mono two_ ?_); rintro e wt2 ⟨At2, ct2, rfl, hFt2, hbt2⟩) | (go_at_call 24; (with_reducible refine cM (doTick0_ (ns := twoN) (ps := []) aw_0 aw_k) ?_); rw [aw_r3]; rintro e wd ⟨v7, rfl, ⟨A7, c7, B7, d7, C7, f7, rfl, hF7, hG7⟩, hbd⟩; try simp only [show w1N.1.length = 2 from rfl, show w1N.2.length = 0 from rfl, show w2N.1.length = 2 from rfl, show w2N.2.length = 0 from rfl, show twoN.length = 2 from rfl, show ([h3] : List S126).length = 1 from rfl] at hF7 hG7 ⊢) | (with_reducible refine box_tc rfl (N := 7) rfl (cs := #[.slice none 0 0, .slice none 0 0, .slice none 0 0]) (t := 61) ?hr ?_; (case hr => go_simp <;> rfl); intro g7 wg7 _ _ _))
 go_upto_region 7 with (fail)
 refine wp_letter fun w8 hb8 => ?_
 have hbz : BelL w wg1 := belL
 have hbz2 : BelL w wr2 := belL
 have hbz3 : BelL w wg3 := belL
 have hbz4 : BelL w wd := belL
 have hbz5 : BelL w wg7 := belL
 have hbz6 : BelL w w8 := belL
 obtain ⟨X2, y2, X3, y3, X4, y4, X5, y5, x0, x1, x2, x3, x4, x5, r2, r3, r4, r5⟩ := own_el40 (W := w8) (g := bu) (n := 2) (c := c2) (l := [n3, n9]) 0 (by decide)
 simp only [Nat.zero_mul, Nat.zero_add, List.getElem_cons_zero, n3] at x0 x1 x2 x3 r2 r3
 clear r4 r5
 go_upto_region 8 with (first | (go_at_call 32; (with_reducible refine Calls.mono succ_ ?_); rw [aw_s, aw_e]; rintro e wsu ⟨rfl, hbsu⟩))
 go_wp2_with (first | (go_at_call 11; (with_reducible refine cM (num _ _) ?_); rintro e w' ⟨rfl, ⟨nd, rfl⟩⟩) | (go_at_call 33; (with_reducible refine cM (worldMay_ (ns := twoN) (ms := [h3]) hz) ?_); rw [aw_3]; rintro e wm ⟨rfl, hbm⟩))
 go_ret
 exact ⟨rfl, belL⟩
end
section
attribute [local go_sem] cell_tc2
attribute [local go_sem high] eqA46 eqA98 eqA77 eqA48
deriving instance DecidableEq for S98, S46, S48, S77
set_option maxHeartbeats 4000000 in
theorem sameInts_ {A B : Option Addr} {n c m d : Nat} {l r : List Int} {w : World} [h : Sr kI w A n c l] [g : Sr kI w B m d r] :
 Calls Tryz.prog 42 #[.slice A n c, .slice B m d] w fun e w' => e = .returned (.bool (decide (l = r))) ∧ BelL w w' := by
 obtain rfl := h.len
 obtain rfl := g.len
 have HS := sr_l h
 have HT := sr_l g
 have hlen : l.length ≤ 9223372036854775807 := h.C.2.1
 have hlen2 : r.length ≤ 9223372036854775807 := g.C.2.1
 clear h g
 go_enter Tryz.func42, Tryz.ntmps42
 by_cases hl : l.length = r.length
 ·have HL := Aside0.mk hl
  have hlb : ((l.length : Int) == (r.length : Int)) = true := by rw [hl]; exact beq_self_eq_true _
  have hlr : l.length ≤ r.length := Nat.le_of_eq hl
  have hrl : r.length ≤ l.length := Nat.le_of_eq hl.symm
  clear hl
  go_wp2
  go_loopg [5] l.length (fun kq v5 w' => ∃ i : Nat, v5 = .int .i64 i ∧ i ≤ l.length ∧ kq = l.length - i ∧ Aside0 (l.take i = r.take i) ∧ BelL w w')
  case atStart => exact ⟨0, rfl, Nat.zero_le _, rfl, ⟨rfl⟩, belL⟩
  case round =>
   obtain ⟨i, rfl, hi, rfl, HA, hbr⟩ := hrel
   by_cases hlt : i < l.length
   ·have hlt2 : i < r.length := by omega
    obtain ⟨a1, rfl, x0⟩ := el_I (W := wr) (A := A) (n := l.length) (c := c) (l := l) i hlt
    obtain ⟨a2, rfl, y0⟩ := el_I (W := wr) (A := B) (n := r.length) (c := d) (l := r) i hlt2
    by_cases hxy : l[i] = r[i]
    ·have HX := Aside0.mk (show l.take (i + 1) = r.take (i + 1) by rw [List.take_succ_eq_append_getElem hlt, List.take_succ_eq_append_getElem hlt2, HA.out, hxy])
     rw [hxy] at x0
     clear hxy HA
     go_upto_region 6 with (fail)
     (refine wp_region_bel (by kernel_rfl) (by kernel_rfl) ?_; (repeat (first | go_big_quiet_skip | (go_big_quiet_want; first | (go_big_quiet_op; go_big_quiet_on) | (apply Exists.intro; refine ⟨fun wq hq => ?_, ?_⟩; (focus (unfold Oper.quietAt; go_simp; first | done | exact ⟨rfl, rfl⟩ | exact rfl)); (try simp only [Act.put, put3]); go_big_quiet_on)))); refine wpQuiet_nil ?_; intro w7 hb7)
     go_wp2
     go_roundg (l.length - (i + 1))
     case measure => omega
     case rel => exact ⟨i + 1, by go_num, by omega, rfl, HX, belL⟩
    ·have HN := Aside0.mk (show decide (l = r) = false from decide_eq_false fun he => hxy (by subst he; rfl))
     have hne : (l[i] == r[i]) = false := beq_false_of_ne hxy
     clear hxy HA
     go_upto_region 6 with (fail)
     (refine wp_region_bel (by kernel_rfl) (by kernel_rfl) ?_; (repeat (first | go_big_quiet_skip | (go_big_quiet_want; first | (go_big_quiet_op; go_big_quiet_on) | (apply Exists.intro; refine ⟨fun wq hq => ?_, ?_⟩; (focus (unfold Oper.quietAt; go_simp; first | done | exact ⟨rfl, rfl⟩ | exact rfl)); (try simp only [Act.put, put3]); go_big_quiet_on)))); refine wpQuiet_nil ?_; intro w7 hb7)
     go_wp2
     go_ret
     exact ⟨by rw [HN.out]; rfl, belL⟩
   ·obtain rfl : i = l.length := by omega
    have HN := Aside0.mk (show decide (l = r) = true from decide_eq_true (by have := HA.out; rw [List.take_length] at this; rw [this, HL.out, List.take_length]))
    go_wp2
    go_ret
    exact ⟨by rw [HN.out]; rfl, belL⟩
 ·have HN := Aside0.mk (show decide (l = r) = false from decide_eq_false fun he => hl (by rw [he]))
  have hlb : ((l.length : Int) == (r.length : Int)) = false := by simpa using fun h : (l.length : Int) = r.length => hl (by omega)
  go_wp2
  go_ret
  exact ⟨by rw [HN.out]; rfl, belL⟩
set_option maxHeartbeats 4000000 in
theorem samePeers_ {A B : Option Addr} {n c m d : Nat} {l r : List S98} {w : World} [h : Sr k98 w A n c l] [g : Sr k98 w B m d r] :
 Calls Tryz.prog 41 #[.slice A n c, .slice B m d] w fun e w' => e = .returned (.bool (decide (l = r))) ∧ BelL w w' := by
 obtain rfl := h.len
 obtain rfl := g.len
 have HS := sr_l h
 have HT := sr_l g
 have hlen : l.length ≤ 9223372036854775807 := h.C.2.1
 have hlen2 : r.length ≤ 9223372036854775807 := g.C.2.1
 clear h g
 go_enter Tryz.func41, Tryz.ntmps41
 by_cases hl : l.length = r.length
 ·have HL := Aside0.mk hl
  have hlb : ((l.length : Int) == (r.length : Int)) = true := by rw [hl]; exact beq_self_eq_true _
  have hlr : l.length ≤ r.length := Nat.le_of_eq hl
  have hrl : r.length ≤ l.length := Nat.le_of_eq hl.symm
  clear hl
  go_wp2
  go_loopg [5] l.length (fun kq v5 w' => ∃ i : Nat, v5 = .int .i64 i ∧ i ≤ l.length ∧ kq = l.length - i ∧ Aside0 (l.take i = r.take i) ∧ BelL w w')
  case atStart => exact ⟨0, rfl, Nat.zero_le _, rfl, ⟨rfl⟩, belL⟩
  case round =>
   obtain ⟨i, rfl, hi, rfl, HA, hbr⟩ := hrel
   by_cases hlt : i < l.length
   ·have hlt2 : i < r.length := by omega
    obtain ⟨a1, rfl, x0, x1⟩ := el_T98 (W := wr) (A := A) (n := l.length) (c := c) (l := l) i hlt
    obtain ⟨a2, rfl, y0, y1⟩ := el_T98 (W := wr) (A := B) (n := r.length) (c := d) (l := r) i hlt2
    by_cases hxy : l[i] = r[i]
    ·have HX := Aside0.mk (show l.take (i + 1) = r.take (i + 1) by rw [List.take_succ_eq_append_getElem hlt, List.take_succ_eq_append_getElem hlt2, HA.out, hxy])
     rw [hxy] at x0 x1
     clear hxy HA
     go_upto_region 6 with (fail)
     (refine wp_region_bel (by kernel_rfl) (by kernel_rfl) ?_; (repeat (first | go_big_quiet_skip | (go_big_quiet_want; first | (go_big_quiet_op; go_big_quiet_on) | (apply Exists.intro; refine ⟨fun wq hq => ?_, ?_⟩; (focus (unfold Oper.quietAt; go_simp; first | done | exact ⟨rfl, rfl⟩ | exact rfl)); (try simp only [Act.put, put3]); go_big_quiet_on)))); refine wpQuiet_nil ?_; intro w7 hb7)
     go_wp2
     go_roundg (l.length - (i + 1))
     case measure => omega
     case rel => exact ⟨i + 1, by go_num, by omega, rfl, HX, belL⟩
    ·have HN := Aside0.mk (show decide (l = r) = false from decide_eq_false fun he => hxy (by subst he; rfl))
     have hne : (l[i].f0 == r[i].f0 && l[i].f1 == r[i].f1) = false := by
      rw [Bool.eq_false_iff]
      intro hh
      apply hxy
      generalize l[i] = x at hh ⊢
      generalize r[i] = y at hh ⊢
      simp only [Bool.and_eq_true, beq_iff_eq] at hh
      obtain ⟨a, b⟩ := x
      obtain ⟨e, f⟩ := y
      simp only at hh
      obtain ⟨rfl, rfl⟩ := hh
      rfl
     clear hxy HA
     go_upto_region 6 with (fail)
     (refine wp_region_bel (by kernel_rfl) (by kernel_rfl) ?_; (repeat (first | go_big_quiet_skip | (go_big_quiet_want; first | (go_big_quiet_op; go_big_quiet_on) | (apply Exists.intro; refine ⟨fun wq hq => ?_, ?_⟩; (focus (unfold Oper.quietAt; go_simp; first | done | exact ⟨rfl, rfl⟩ | exact rfl)); (try simp only [Act.put, put3]); go_big_quiet_on)))); refine wpQuiet_nil ?_; intro w7 hb7)
     go_wp2
     go_ret
     exact ⟨by rw [HN.out]; rfl, belL⟩
   ·obtain rfl : i = l.length := by omega
    have HN := Aside0.mk (show decide (l = r) = true from decide_eq_true (by have := HA.out; rw [List.take_length] at this; rw [this, HL.out, List.take_length]))
    go_wp2
    go_ret
    exact ⟨by rw [HN.out]; rfl, belL⟩
 ·have HN := Aside0.mk (show decide (l = r) = false from decide_eq_false fun he => hl (by rw [he]))
  have hlb : ((l.length : Int) == (r.length : Int)) = false := by simpa using fun h : (l.length : Int) = r.length => hl (by omega)
  go_wp2
  go_ret
  exact ⟨by rw [HN.out]; rfl, belL⟩
end
end Go.Proofs.YtljipbmmgcccnaaGreat.T
end
