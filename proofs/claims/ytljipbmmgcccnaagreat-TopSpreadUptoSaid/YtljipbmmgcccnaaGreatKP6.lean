/- Words and lemmas that the claim's proof names, part 6: what the program's functions answer, at the inputs that each theorem's premises name. Conditions: each theorem's own premises. -/
import Derived.Test.YtljipbmmgcccnaaGreatKP5
import Derived.Lib.Overlaps
import Derived.Deep.AppendSrc
import Derived.Laws.CopyRow
import Derived.Shelf.Spec.SlicesInsert
section
namespace Go.Proofs.YtljipbmmgcccnaaGreat.T
open Go.RowKit Go.Proofs.YtljipbmmgcccnaaGreatW.PrintWords Go.Proofs.YtljipbmmgcccnaaGreatW.PrintLast Go.Proofs.YtljipbmmgcccnaaGreatW.PrintMore
set_option linter.unusedVariables false
set_option linter.unusedSimpArgs false
theorem run_copy_k {P : Program} (w : World) (dT sT ty elem : TypeId) (k g o dLen dCap : Nat) (a : Addr) (sLen sCap : Nat) (cur : Array Value) (t : TypeId) (cs : List Value) (m : Nat)
 (hu : P.underlying dT = some (.slice elem)) (hs : (P.info? elem).map (·.size) = some k)
 (hg : w.heap[g]? = some (.cells cur t (0, 0))) (hm : Nat.min sLen dLen = m) (hn : cs.length = m * k)
 (hsrc : ∀ j v, cs[j]? = some v → w.cell? (a.add j) = some v) (hfit : o + cs.length ≤ cur.size) (h1 : ∀ v ∈ cs, v.oneCell' = true) :
 (Builtin.copy_ #[dT, sT] ty #[.slice (some ⟨g, o, none⟩) dLen dCap, .slice (some a) sLen sCap]).run P w =
  .ok (goInt m) (w.setRow g (cur.toList.take o ++ cs ++ cur.toList.drop (o + cs.length)).toArray) := by
 have hl := run_loadCells_list (P := P) w a cs hsrc
 have hst := run_storeCells_at (P := P) g o t cs 0 cur w hg (by simpa using hfit) h1
 rw [Nat.add_zero] at hst
 cases hq : P.info? elem with
 | none => simp [hq] at hs
 | some i =>
   have hi : i.size = k := by simpa [hq] using hs
   subst hm
   simp [Builtin.copy_, run_underlying hu, Builtin.lenOf, Builtin.firstCells, sizeOf, typeInfo, hq, hi, ← hn, hl, hst]
theorem run_append_zeros {P : Program} (w : World) (t tn ty e : TypeId) (i : TypeInfo) (z : Value) (k kn : IntKind) (ht : P.underlying t = some (.slice e)) (htn : P.underlying tn = some (.int kn)) (hi : P.info? e = some i) (hz : i.zero = some z)
 (base : Option Addr) (s c : Nat) (olds : List Value) (hold : (Builtin.firstCells i.size s (.slice base s c)).run P w.drew = .ok olds.toArray w.drew)
 (n : Nat) (h0 : 0 < n) (hs : 0 < i.size) (hg : c < s + n) (h63 : (s : Int) + (n : Int) ≤ 9223372036854775807) (h48 : Builtin.nextslicecap (s + n) c * i.bytes ≤ 281474976710656) :
 (Builtin.append_ #[t, tn] ty #[.slice base s c, .int k n]).run P w =
  .ok (.slice (some ⟨w.heap.size, 0, none⟩) (s + n) (grownCap w (s + n) c e)) (w.drew.alloc (.cells ((olds ++ (Builtin.zeroCells z.cells n).toList).toArray ++ Builtin.zeroCells z.cells (grownCap w (s + n) c e - (s + n))) e)) := by
 have hn : n ≠ 0 := by omega
 have hw : IntKind.i64.wrap (n : Int) = n := by rw [IntKind.wrap_i64]; omega
 have h63' : ¬ (9223372036854775807 < (s : Int) + (n : Int)) := by omega
 have h48' : ¬ (281474976710656 < Builtin.nextslicecap (s + n) c * i.bytes) := by omega
 have h48i : ¬ (281474976710656 < (n : Int) * (i.bytes : Int)) := by
  rw [← Int.natCast_mul]
  have h1 : n ≤ Builtin.nextslicecap (s + n) c := Nat.le_trans (Nat.le_add_left n s) (le_nextslicecap hg)
  have := Nat.le_trans (Nat.mul_le_mul_right i.bytes h1) h48
  omega
 have hneg : ¬ ((n : Int) < 0) := by omega
 have hng : ¬ (s + n ≤ c) := by omega
 have hns : ¬ (n * i.size = 0) := Nat.mul_ne_zero hn (by omega)
 simp [Builtin.append_, run_underlying ht, run_underlying htn, sizeOf, typeInfo, zeroValue, hi, hz, asInt, asIntOf, hw, hn, hneg, hns, hng, h63', h48', h48i, Question.forced, hold, newRow, grownCap]
 congr 2
 apply Array.ext'
 simp [List.append_assoc]
theorem cell_own {w : World} {g : Nat} {cur : Array Value} {t : TypeId} {xs : List Value} {m : Nat} (hg : w.heap[g]? = some (.cells cur t (0, 0))) (hx : cur.toList.take m = xs) (o : Nat) : ∀ j u, (xs.drop o)[j]? = some u → w.cell? ((⟨g, o, none⟩ : Addr).add j) = some u := by
 intro j u h
 rw [Addr.add_lit, blk_cell hg]
 rw [List.getElem?_drop, ← hx, List.getElem?_take] at h
 split at h
 ·simpa using h
 ·simp at h
set_option maxHeartbeats 4000000 in
set_option maxRecDepth 100000 in
theorem insertPeerEnd (v : Value) (n : Nat) (xs news : List Value) (w : World) (b0 vb : Nat) (hown : w.ownsRow b0 98 2 v n xs) (hvb : w.heap[vb]? = some (.cells news.toArray 98 (0, 0))) (hnl : news.length = 2)
 (h1v : ∀ u ∈ news, u.oneCell' = true) (hn : n ≤ 1000000) (hb0 : b0 ≤ w.heap.size) :
 Calls Tryz.prog 46 #[v, .int .i64 n, .slice (some ⟨vb, 0, none⟩) 1 1] w fun e w' => ∃ v', e = .returned v' ∧ w'.ownsRow b0 98 2 v' (n + 1) (xs ++ news) ∧ w.grownBy w' v.ownBlock := by
 obtain ⟨i0, hi0, hz0, hzs, hzb⟩ := info_parts (P := Tryz.prog) (e := 98) (z := .agg #[.int .i64 0, .int .i64 0]) (size := 2) (bytes := 16) (by kernel_rfl)
 have HOW := Aside0.mk hown
 have HNW := Aside0.mk (show ∀ j u, news[j]? = some u → w.cell? ((⟨vb, 0, none⟩ : Addr).add j) = some u from fun j u h => by rw [Addr.add_lit, blk_cell hvb]; simpa using h)
 have HI := Aside0.mk hi0
 have HZ := Aside0.mk hz0
 have HS := Aside0.mk hzs
 have HY := Aside0.mk hzb
 have HV := Aside0.mk h1v
 have HL := Aside0.mk hnl
 have hz1 : ¬ ((1 : Nat) = 0) := by omega
 clear hi0 hz0 hzs hzb h1v hnl hvb
 rcases hown.2 with ⟨hv, h0⟩ | ⟨g, cap, cur, hv, hbg, hg, hnc, hcm, hcs, htake⟩
 ·subst h0
  subst hv
  clear hown
  go_enter Tryz.func46, Tryz.ntmps46
  go_wp2_with (first | (at_builtin; refine wpList_append_own _ rfl _ _ 22 rfl b0 98 i0 _ 2 16 Tryz.underlying22 HI.out HZ.out HS.out HY.out rfl (by decide) _ _ _ rfl HOW.out _ _ _ _ rfl (by rw [HL.out]) HNW.out HV.out (by simp only [maxLen]; omega) (by omega) hb0 ?_; intro v1 w1 ho hg1 hnil; have HO := Aside0.mk ho; have HG := Aside0.mk hg1; clear ho hg1 hnil))
  go_ret
  exact ⟨v1, rfl, HO.out, HG.out⟩
 ·subst hv
  clear hown hg hcs htake
  have HC := Aside0.mk hnc
  go_enter Tryz.func46, Tryz.ntmps46
  go_wp2_with (first | (at_builtin; refine wpList_append_own _ rfl _ _ 22 rfl b0 98 i0 _ 2 16 Tryz.underlying22 HI.out HZ.out HS.out HY.out rfl (by decide) _ _ _ rfl HOW.out _ _ _ _ rfl (by rw [HL.out]) HNW.out HV.out (by simp only [maxLen]; omega) (by omega) hb0 ?_; intro v1 w1 ho hg1 hnil; have HO := Aside0.mk ho; have HG := Aside0.mk hg1; clear ho hg1 hnil))
  all_goals (go_ret; exact ⟨v1, rfl, HO.out, HG.out⟩)
set_option maxHeartbeats 4000000 in
set_option maxRecDepth 100000 in
theorem insertPeerGrow (g n cap i : Nat) (cur : Array Value) (xs news : List Value) (w : World) (b0 vb : Nat) (hbg : b0 ≤ g) (hg : w.heap[g]? = some (.cells cur 98 (0, 0))) (hnc : n ≤ cap) (hcm : cap ≤ maxLen) (hcs : cur.size = cap * 2) (htake : cur.toList.take (n * 2) = xs) (h1x : ∀ u ∈ xs, u.oneCell' = true)
 (hvb : w.heap[vb]? = some (.cells news.toArray 98 (0, 0))) (hnl : news.length = 2) (h1v : ∀ u ∈ news, u.oneCell' = true) (hne : vb ≠ g) (hi : i < n) (hn : n ≤ 1000000) (hb0 : b0 ≤ w.heap.size) (hroom : cap < n + 1) :
 Calls Tryz.prog 46 #[.slice (some ⟨g, 0, none⟩) n cap, .int .i64 i, .slice (some ⟨vb, 0, none⟩) 1 1] w fun e w' => ∃ v', e = .returned v' ∧ w'.ownsRow b0 98 2 v' (n + 1) (xs.take (i * 2) ++ news ++ xs.drop (i * 2)) ∧ w.grownBy w' (some g) := by
 obtain ⟨i0, hi0, hz0, hzs, hzb⟩ := info_parts (P := Tryz.prog) (e := 98) (z := .agg #[.int .i64 0, .int .i64 0]) (size := 2) (bytes := 16) (by kernel_rfl)
 have hxl : xs.length = n * 2 := by rw [← htake, List.length_take, Array.length_toList, hcs]; omega
 have hsz : (Tryz.prog.info? 98).map (·.size) = some 2 := by rw [hi0]; simp [hzs]
 have hold : (Builtin.firstCells i0.size i (.slice (some ⟨g, 0, none⟩) i cap)).run Tryz.prog w.drew = .ok (xs.take (i * 2)).toArray w.drew := by
  rw [hzs]
  exact run_firstCells_some w.drew 2 i ⟨g, 0, none⟩ i cap (xs.take (i * 2)) (by rw [List.length_take, hxl]; omega) (fun j u hj => by
   rw [List.getElem?_take] at hj
   split at hj
   ·exact cell_own (w := w) hg htake 0 j u (by simpa using hj)
   ·simp at hj)
 have hfit : Builtin.nextslicecap (n + 1) cap * i0.bytes ≤ 281474976710656 := by rw [hzb]; exact growslice_fits hroom (by omega)
 have hrun : ∀ ty, (Builtin.append_ #[22, 3] ty #[.slice (some ⟨g, 0, none⟩) i cap, .int .i64 ((n : Int) + 1 - (i : Int))]).run Tryz.prog w = .ok (.slice (some ⟨w.heap.size, 0, none⟩) (n + 1) (grownCap w (n + 1) cap 98)) (w.drew.alloc (.cells ((xs.take (i * 2) ++ (Builtin.zeroCells (.agg #[.int .i64 0, .int .i64 0] : Value).cells (n + 1 - i)).toList).toArray ++ Builtin.zeroCells (.agg #[.int .i64 0, .int .i64 0] : Value).cells (grownCap w (n + 1) cap 98 - (n + 1))) 98)) := fun ty => by
  have h := run_append_zeros (P := Tryz.prog) w 22 3 ty 98 i0 _ .i64 .i64 Tryz.underlying22 Tryz.underlying3 hi0 hz0 (some ⟨g, 0, none⟩) i cap (xs.take (i * 2)) hold (n + 1 - i) (by omega) (by rw [hzs]; decide) (by omega) (by omega) (by rw [show i + (n + 1 - i) = n + 1 by omega]; exact hfit)
  rw [show ((n + 1 - i : Nat) : Int) = (n : Int) + 1 - (i : Int) by omega, show i + (n + 1 - i) = n + 1 by omega] at h
  exact h
 have hcap : n + 1 ≤ grownCap w (n + 1) cap 98 := grownCap_ge w (n + 1) cap 98
 have hcapm : grownCap w (n + 1) cap 98 ≤ maxLen := grownCap_le_maxLen w (n + 1) cap 98 (by simp only [maxLen]; omega)
 generalize grownCap w (n + 1) cap 98 = c2 at hrun hcap hcapm
 generalize hC : ((xs.take (i * 2) ++ (Builtin.zeroCells (.agg #[.int .i64 0, .int .i64 0] : Value).cells (n + 1 - i)).toList).toArray ++ Builtin.zeroCells (.agg #[.int .i64 0, .int .i64 0] : Value).cells (c2 - (n + 1))) = C0 at hrun
 have hC0 : C0.size = c2 * 2 := by
  have hzc : (.agg #[.int .i64 0, .int .i64 0] : Value).cells.size = 2 := rfl
  rw [← hC]; simp only [Array.size_append, List.size_toArray, List.length_append, Array.length_toList, size_zeroCells, hzc, List.length_take, hxl]; omega
 have hCt : C0.toList.take (i * 2) = xs.take (i * 2) := by
  rw [← hC]; simp only [Array.toList_append, List.append_assoc]
  rw [List.take_append_of_le_length (by rw [List.length_take, hxl]; omega), List.take_take, Nat.min_self]
 generalize hC1 : (C0.toList.take (i * 2) ++ news ++ C0.toList.drop (i * 2 + news.length)).toArray = C1
 have hC1s : C1.size = c2 * 2 := by rw [← hC1]; simp only [List.size_toArray, List.length_append, List.length_take, List.length_drop, Array.length_toList, hC0, hnl]; omega
 have HCP1 := Aside0.mk (show ∀ (W : World) ty dc, W.heap[w.heap.size]? = some (.cells C0 98 (0, 0)) → W.heap[vb]? = some (.cells news.toArray 98 (0, 0)) → (Builtin.copy_ #[22, 22] ty #[.slice (some ⟨w.heap.size, i * 2, none⟩) (n + 1 - i) dc, .slice (some ⟨vb, 0, none⟩) 1 1]).run Tryz.prog W = .ok (goInt 1) (W.setRow w.heap.size C1) from fun W ty dc h0 h1 => by
  rw [← hC1]
  exact run_copy_k W 22 22 ty 98 2 w.heap.size (i * 2) (n + 1 - i) dc ⟨vb, 0, none⟩ 1 1 C0 98 news 1 Tryz.underlying22 hsz h0 (by simp only [Nat.min_def]; split <;> omega) (by rw [hnl]) (fun j u h => by rw [Addr.add_lit, blk_cell h1]; simpa using h) (by rw [hnl, hC0]; omega) h1v)
 generalize hC2 : (C1.toList.take ((i + 1) * 2) ++ xs.drop (i * 2) ++ C1.toList.drop ((i + 1) * 2 + (xs.drop (i * 2)).length)).toArray = C2
 have hdl : (xs.drop (i * 2)).length = (n - i) * 2 := by rw [List.length_drop, hxl]; omega
 have hC2s : C2.size = c2 * 2 := by rw [← hC2]; simp only [List.size_toArray, List.length_append, List.length_take, List.length_drop, Array.length_toList, hC1s, hxl]; omega
 have HCP2 := Aside0.mk (show ∀ (W : World) ty dc sc, W.heap[w.heap.size]? = some (.cells C1 98 (0, 0)) → W.heap[g]? = some (.cells cur 98 (0, 0)) → (Builtin.copy_ #[22, 22] ty #[.slice (some ⟨w.heap.size, (i + 1) * 2, none⟩) (n - i) dc, .slice (some ⟨g, i * 2, none⟩) (n - i) sc]).run Tryz.prog W = .ok (goInt ((n - i : Nat) : Int)) (W.setRow w.heap.size C2) from fun W ty dc sc h0 h1 => by
  rw [← hC2]
  exact run_copy_k W 22 22 ty 98 2 w.heap.size ((i + 1) * 2) (n - i) dc ⟨g, i * 2, none⟩ (n - i) sc C1 98 (xs.drop (i * 2)) (n - i) Tryz.underlying22 hsz h0 (Nat.min_self _) hdl (cell_own h1 htake (i * 2)) (by rw [hdl, hC1s]; omega) (fun u hu => h1x u (List.mem_of_mem_drop hu)))
 have HFIN := Aside0.mk (show C2.toList.take ((n + 1) * 2) = xs.take (i * 2) ++ news ++ xs.drop (i * 2) by
  have e1 : C1.toList.take ((i + 1) * 2) = xs.take (i * 2) ++ news := by
   rw [← hC1, ← hCt]
   have : (i + 1) * 2 = (C0.toList.take (i * 2) ++ news).length := by rw [List.length_append, List.length_take, Array.length_toList, hC0, hnl]; omega
   rw [this]
   exact List.take_left
  have : (n + 1) * 2 = (C1.toList.take ((i + 1) * 2) ++ xs.drop (i * 2)).length := by rw [List.length_append, List.length_take, Array.length_toList, hC1s, hdl]; omega
  rw [← hC2, this]
  show List.take _ (_ ++ _) = _
  rw [List.take_left, e1])
 have HC2 := Aside0.mk hC2s
 have HDL := Aside0.mk hdl
 have HXL := Aside0.mk hxl
 have HNL := Aside0.mk hnl
 clear hC1 hC1s hC2 hC2s hdl
 have HR := Aside0.mk hrun
 have HG0 := Aside0.mk hg
 have HX := Aside0.mk htake
 have HVB := Aside0.mk hvb
 have HC0 := Aside0.mk hC
 have HCT := Aside0.mk hCt
 have HCZ := Aside0.mk hC0
 clear hrun hg htake hvb hC hCt hC0 hold hfit h1x h1v hsz hcs hxl hnl hi0 hz0 hzs hzb
 have hb1 : ¬ c2 = i := by omega
 have hb2 : ¬ c2 = i + 1 := by omega
 have hb3 : ¬ cap = i := by omega
 have hz1 : ¬ ((i : Int) = (n : Int)) := by omega
 go_enter Tryz.func46, Tryz.ntmps46
 go_wp2_with (first | (at_builtin; refine Lib.wpList_append_run _ rfl _ _ _ _ rfl _ _ rfl rfl _ _ (HR.out _) ?_) | ((with_reducible refine gate_builtin (b := .copy) (xs := #[.tmp 43, .tmp 44]) rfl ?_); refine wpList_copy_runI _ rfl _ _ 22 22 rfl _ _ rfl rfl (HCP1.out _ _ _ (blk_drew (blk_new w _)) (blk_drew (blk_alloc HVB.out _))) ?_))
 (try simp only [Act.put, put3])
 have hlt : g < w.heap.size := blk_lt HG0.out
 obtain ⟨W1, hW1⟩ : ∃ W1, W1 = (w.alloc (Obj.cells C0 98)).drew.setRow w.heap.size C1 := ⟨_, rfl⟩
 have HA1 := Aside0.mk (show W1.heap[w.heap.size]? = some (.cells C1 98 (0, 0)) by rw [hW1]; exact setRow_heap _ _ C0 _ 98 (0, 0) (blk_drew (blk_new w _)))
 have HA2 := Aside0.mk (show W1.heap[g]? = some (.cells cur 98 (0, 0)) by rw [hW1, setRow_other _ _ _ _ (by omega)]; exact blk_drew (blk_alloc HG0.out _))
 have HA3 := Aside0.mk (show w.grownBy W1 (some g) by rw [hW1]; exact ⟨rfl, rfl, rfl, by simp only [World.setRow, World.alloc, World.drew, Array.size_modify, Array.size_push]; omega, fun k hk _ => by rw [setRow_other _ _ _ _ (by omega)]; exact Below.heap_alloc w _ k hk⟩)
 rw [← hW1]
 clear hW1
 have mixed : Tryz.prog.follows Departure.mixedOrders = true := by kernel_rfl
 have hw1 : IntKind.i64.wrap ((i : Int) + 1) = (i : Int) + 1 := by rw [IntKind.wrap_i64]; omega
 have hb4 : (0 : Int) ≤ (i : Int) + 1 := by omega
 have hb5 : (i : Int) + 1 ≤ (n : Int) + 1 := by omega
 have htn : ((i : Int) + 1).toNat = i + 1 := by omega
 have hb6 : i ≤ n := by omega
 go_region_law_o (go_loud (refine step_copy_runI rfl _ _ 22 22 rfl (.slice (some ⟨w.heap.size, (i + 1) * 2, none⟩) (n - i) (c2 - (i + 1))) (.slice (some ⟨g, i * 2, none⟩) (n - i) (cap - i)) (by simp [Act.eval, Act.put]) (by simp [Act.eval, Act.put]) (HCP2.out _ _ _ _ (blk_drew HA1.out) (blk_drew HA2.out)) ?_))
 (try simp only [Act.put, put3])
 have HO1 := Aside0.mk (show (W1.drew.setRow w.heap.size C2).ownsRow b0 98 2 (.slice (some ⟨w.heap.size, 0, none⟩) (n + 1) c2) (n + 1) (xs.take (i * 2) ++ news ++ xs.drop (i * 2)) from
  ⟨by rw [List.length_append, List.length_append, List.length_take, List.length_drop, HXL.out, HNL.out]; omega, .inr ⟨w.heap.size, c2, C2, rfl, hb0, setRow_heap _ _ C1 _ 98 (0, 0) (blk_drew HA1.out), hcap, hcapm, HC2.out, HFIN.out⟩⟩)
 have HG1 := Aside0.mk (show w.grownBy (W1.drew.setRow w.heap.size C2) (some g) from
  ⟨HA3.out.os, HA3.out.tape, HA3.out.output, by have := HA3.out.size; simp only [World.setRow, World.drew, Array.size_modify]; exact this, fun k hk hne => by rw [setRow_other _ _ _ _ (by omega)]; exact HA3.out.block k hk hne⟩)
 go_wp2
 go_ret
 exact ⟨_, rfl, HO1.out, HG1.out⟩
set_option maxHeartbeats 4000000 in
set_option maxRecDepth 100000 in
theorem insertPeerShift (g n cap i : Nat) (cur : Array Value) (xs news : List Value) (w : World) (b0 vb : Nat) (hbg : b0 ≤ g) (hg : w.heap[g]? = some (.cells cur 98 (0, 0))) (hnc : n ≤ cap) (hcm : cap ≤ maxLen) (hcs : cur.size = cap * 2) (htake : cur.toList.take (n * 2) = xs) (h1x : ∀ u ∈ xs, u.oneCell' = true)
 (hvb : w.heap[vb]? = some (.cells news.toArray 98 (0, 0))) (hnl : news.length = 2) (h1v : ∀ u ∈ news, u.oneCell' = true) (hne : vb ≠ g) (hi : i < n) (hn : n ≤ 1000000) (hb0 : b0 ≤ w.heap.size) (hroom : n + 1 ≤ cap) :
 Calls Tryz.prog 46 #[.slice (some ⟨g, 0, none⟩) n cap, .int .i64 i, .slice (some ⟨vb, 0, none⟩) 1 1] w fun e w' => ∃ v', e = .returned v' ∧ w'.ownsRow b0 98 2 v' (n + 1) (xs.take (i * 2) ++ news ++ xs.drop (i * 2)) ∧ w.grownBy w' (some g) := by
 have hxl : xs.length = n * 2 := by rw [← htake, List.length_take, Array.length_toList, hcs]; omega
 obtain ⟨i0, hi0, hz0, hzs, hzb⟩ := info_parts (P := Tryz.prog) (e := 98) (z := .agg #[.int .i64 0, .int .i64 0]) (size := 2) (bytes := 16) (by kernel_rfl)
 have hsz : (Tryz.prog.info? 98).map (·.size) = some 2 := by rw [hi0]; simp [hzs]
 have hdl : (xs.drop (i * 2)).length = (n - i) * 2 := by rw [List.length_drop, hxl]; omega
 generalize hC1 : (cur.toList.take ((i + 1) * 2) ++ xs.drop (i * 2) ++ cur.toList.drop ((i + 1) * 2 + (xs.drop (i * 2)).length)).toArray = C1
 have hC1s : C1.size = cap * 2 := by rw [← hC1]; simp only [List.size_toArray, List.length_append, List.length_take, List.length_drop, Array.length_toList, hcs, hxl]; omega
 have HCP1 := Aside0.mk (show ∀ (W : World) ty dc sc, W.heap[g]? = some (.cells cur 98 (0, 0)) → (Builtin.copy_ #[22, 22] ty #[.slice (some ⟨g, (i + 1) * 2, none⟩) (n - i) dc, .slice (some ⟨g, i * 2, none⟩) (n + 1 - i) sc]).run Tryz.prog W = .ok (goInt ((n - i : Nat) : Int)) (W.setRow g C1) from fun W ty dc sc h1 => by
  rw [← hC1]
  exact run_copy_k W 22 22 ty 98 2 g ((i + 1) * 2) (n - i) dc ⟨g, i * 2, none⟩ (n + 1 - i) sc cur 98 (xs.drop (i * 2)) (n - i) Tryz.underlying22 hsz h1 (by simp only [Nat.min_def]; split <;> omega) hdl (cell_own h1 htake (i * 2)) (by rw [hdl, hcs]; omega) (fun u hu => h1x u (List.mem_of_mem_drop hu)))
 generalize hC2 : (C1.toList.take (i * 2) ++ news ++ C1.toList.drop (i * 2 + news.length)).toArray = C2
 have hC2s : C2.size = cap * 2 := by rw [← hC2]; simp only [List.size_toArray, List.length_append, List.length_take, List.length_drop, Array.length_toList, hC1s, hnl]; omega
 have HCP2 := Aside0.mk (show ∀ (W : World) ty dc, W.heap[g]? = some (.cells C1 98 (0, 0)) → W.heap[vb]? = some (.cells news.toArray 98 (0, 0)) → (Builtin.copy_ #[22, 22] ty #[.slice (some ⟨g, i * 2, none⟩) (n + 1 - i) dc, .slice (some ⟨vb, 0, none⟩) 1 1]).run Tryz.prog W = .ok (goInt 1) (W.setRow g C2) from fun W ty dc h0 h1 => by
  rw [← hC2]
  exact run_copy_k W 22 22 ty 98 2 g (i * 2) (n + 1 - i) dc ⟨vb, 0, none⟩ 1 1 C1 98 news 1 Tryz.underlying22 hsz h0 (by simp only [Nat.min_def]; split <;> omega) (by rw [hnl]) (fun j u h => by rw [Addr.add_lit, blk_cell h1]; simpa using h) (by rw [hnl, hC1s]; omega) h1v)
 have HFIN := Aside0.mk (show C2.toList.take ((n + 1) * 2) = xs.take (i * 2) ++ news ++ xs.drop (i * 2) by
  have e0 : cur.toList.take (i * 2) = xs.take (i * 2) := by rw [← htake, List.take_take, Nat.min_eq_left (by omega)]
  have e1 : C1.toList.take (i * 2) = xs.take (i * 2) := by
   rw [← hC1]
   show List.take _ (_ ++ _ ++ _) = _
   rw [List.append_assoc, List.take_append_of_le_length (by rw [List.length_take, Array.length_toList, hcs]; omega), List.take_take, Nat.min_eq_left (by omega), e0]
  have e2 : (C1.toList.drop (i * 2 + news.length)).take ((n - i) * 2) = xs.drop (i * 2) := by
   rw [← hC1]
   show (List.drop _ (_ ++ _ ++ _)).take _ = _
   have h9 : cur.toList.length = cap * 2 := Array.length_toList.trans hcs
   have e3 : i * 2 + news.length = (cur.toList.take ((i + 1) * 2)).length := by rw [List.length_take, h9, hnl]; omega
   rw [e3, List.append_assoc, List.drop_left, ← hdl, List.take_left]
  rw [← hC2]
  show List.take _ (_ ++ _ ++ _) = _
  have e4 : (n + 1) * 2 = (C1.toList.take (i * 2) ++ news).length + (n - i) * 2 := by rw [List.length_append, List.length_take, Array.length_toList, hC1s, hnl]; omega
  rw [e4, List.take_length_add_append, e2, e1])
 have HC2 := Aside0.mk hC2s
 have HXL := Aside0.mk hxl
 have HNL := Aside0.mk hnl
 have HVB := Aside0.mk hvb
 have HG0 := Aside0.mk hg
 have hov : ∀ lb cb, (callFunc 103 #[.slice (some ⟨vb, 0, none⟩) 1 1, .slice (some ⟨g, (i + 1) * 2, none⟩) lb cb]).run Tryz.prog w = .ok (.value (.bool false)) w := fun lb cb => by
  rw [run_callFunc_extern Tryz.func103 (by kernel_rfl) (by kernel_rfl) (by kernel_rfl) (e := Extern.SlicesOverlaps.overlaps #[22, 22] #[4]) (by kernel_rfl),
   Lib.run_overlaps_apart w 22 4 98 Tryz.underlying22 2 Tryz.sizeOf98 ⟨vb, 0, none⟩ ⟨g, (i + 1) * 2, none⟩ 1 1 lb cb hne 98 98 news.length cur.size (by simp [World.shape?, hvb]) (by simp [World.shape?, hg]) (by omega) (blk_frozen hvb 0) (blk_frozen hvb _)]
  rfl
 clear hC1 hC1s hC2 hC2s hdl hg htake hvb h1x h1v hsz hcs hxl hnl hi0 hz0 hzs hzb
 have hb1 : ¬ cap = i := by omega
 have hb2 : ¬ cap = i + 1 := by omega
 have hz1 : ¬ ((i : Int) = (n : Int)) := by omega
 have mixed : Tryz.prog.follows Departure.mixedOrders = true := by kernel_rfl
 have hw1 : IntKind.i64.wrap ((i : Int) + 1) = (i : Int) + 1 := by rw [IntKind.wrap_i64]; omega
 have hb4 : (0 : Int) ≤ (i : Int) + 1 := by omega
 have hb5 : (i : Int) + 1 ≤ (n : Int) + 1 := by omega
 have htn : ((i : Int) + 1).toNat = i + 1 := by omega
 have hb6 : i ≤ n := by omega
 have hb7 : (i : Int) ≤ (n : Int) + 1 := by omega
 go_enter Tryz.func46, Tryz.ntmps46
 go_wp2_with (simp only [hov])
 go_region_law_o (refine step_copy_runI rfl _ _ 22 22 rfl (.slice (some ⟨g, (i + 1) * 2, none⟩) (n - i) (cap - (i + 1))) (.slice (some ⟨g, i * 2, none⟩) (n + 1 - i) (cap - i)) (by simp [Act.eval, Act.put]) (by simp [Act.eval, Act.put]) (HCP1.out _ _ _ _ (blk_drew HG0.out)) ?_)
 (try simp only [Act.put, put3])
 obtain ⟨W1, hW1⟩ : ∃ W1, W1 = w.drew.setRow g C1 := ⟨_, rfl⟩
 have HA1 := Aside0.mk (show W1.heap[g]? = some (.cells C1 98 (0, 0)) by rw [hW1]; exact setRow_heap _ _ cur _ 98 (0, 0) (blk_drew HG0.out))
 have HA2 := Aside0.mk (show W1.heap[vb]? = some (.cells news.toArray 98 (0, 0)) by rw [hW1, setRow_other _ _ _ _ hne]; exact blk_drew HVB.out)
 have HA3 := Aside0.mk (show w.grownBy W1 (some g) by rw [hW1]; exact ⟨rfl, rfl, rfl, by simp only [World.setRow, World.drew, Array.size_modify]; omega, fun k hk hne => setRow_other _ _ _ _ (fun e => hne (by rw [e]))⟩)
 rw [← hW1]
 clear hW1
 go_wp2_with (first | ((with_reducible refine gate_builtin (b := .copy) (xs := #[.tmp 80, .tmp 81]) rfl ?_); refine wpList_copy_runI _ rfl _ _ 22 22 rfl _ _ rfl rfl (HCP2.out _ _ _ HA1.out HA2.out) ?_))
 have HO1 := Aside0.mk (show (W1.setRow g C2).ownsRow b0 98 2 (.slice (some ⟨g, 0, none⟩) (n + 1) cap) (n + 1) (xs.take (i * 2) ++ news ++ xs.drop (i * 2)) from
  ⟨by rw [List.length_append, List.length_append, List.length_take, List.length_drop, HXL.out, HNL.out]; omega, .inr ⟨g, cap, C2, rfl, hbg, setRow_heap _ _ C1 _ 98 (0, 0) HA1.out, hroom, hcm, HC2.out, HFIN.out⟩⟩)
 have HG1 := Aside0.mk (show w.grownBy (W1.setRow g C2) (some g) from
  ⟨HA3.out.os, HA3.out.tape, HA3.out.output, by have := HA3.out.size; simp only [World.setRow, Array.size_modify]; exact this, fun k hk hne => by rw [setRow_other _ _ _ _ (fun e => hne (by rw [e]))]; exact HA3.out.block k hk hne⟩)
 (try simp only [Act.put, put3])
 go_wp2
 go_ret
 exact ⟨_, rfl, HO1.out, HG1.out⟩
end Go.Proofs.YtljipbmmgcccnaaGreat.T
end
section
namespace Go.Proofs.YtljipbmmgcccnaaGreat.T
open Go.RowKit Go.Proofs.YtljipbmmgcccnaaGreatW.PrintWords Go.Proofs.YtljipbmmgcccnaaGreatW.PrintLast Go.Proofs.YtljipbmmgcccnaaGreatW.PrintMore
set_option linter.unusedVariables false
set_option linter.unusedSimpArgs false
theorem Reps.app_ {α : Type} {R : α → List Value → Prop} {k : Nat} {ps qs : List α} {cs ds : List Value} (h : Reps R k ps cs) (g : Reps R k qs ds) : Reps R k (ps ++ qs) (cs ++ ds) := by
 refine ⟨by rw [List.length_append, List.length_append, h.1, g.1, Nat.add_mul], fun j p hj => ?_⟩
 by_cases hlt : j < ps.length
 ·rw [List.getElem?_append_left hlt] at hj
  have h1 : j * k + k ≤ cs.length := by rw [h.1, ← Nat.succ_mul]; exact Nat.mul_le_mul_right k hlt
  rw [List.drop_append_of_le_length (by omega), List.take_append_of_le_length (by rw [List.length_drop]; omega)]
  exact h.2 j p hj
 ·rw [List.getElem?_append_right (by omega)] at hj
  have e : (cs ++ ds).drop (j * k) = ds.drop ((j - ps.length) * k) := by
   have e1 : j * k = cs.length + (j - ps.length) * k := by rw [h.1, ← Nat.add_mul]; congr 1; omega
   rw [e1, ← List.drop_drop, List.drop_left]
  rw [e]
  exact g.2 _ p hj
theorem Reps.take_ {α : Type} {R : α → List Value → Prop} {k : Nat} {ps : List α} {cs : List Value} (h : Reps R k ps cs) (i : Nat) (hi : i ≤ ps.length) : Reps R k (ps.take i) (cs.take (i * k)) := by
 have h0 : i * k ≤ cs.length := by rw [h.1]; exact Nat.mul_le_mul_right k hi
 refine ⟨by rw [List.length_take, List.length_take, Nat.min_eq_left h0, Nat.min_eq_left hi], fun j p hj => ?_⟩
 rw [List.getElem?_take] at hj
 split at hj
 ·rename_i hlt
  have h1 : j * k + k ≤ i * k := by rw [← Nat.succ_mul]; exact Nat.mul_le_mul_right k hlt
  rw [List.drop_take, List.take_take, Nat.min_eq_left (by omega)]
  exact h.2 j p hj
 ·simp at hj
theorem Reps.drop_ {α : Type} {R : α → List Value → Prop} {k : Nat} {ps : List α} {cs : List Value} (h : Reps R k ps cs) (i : Nat) : Reps R k (ps.drop i) (cs.drop (i * k)) := by
 refine ⟨by rw [List.length_drop, List.length_drop, h.1, Nat.sub_mul], fun j p hj => ?_⟩
 rw [List.getElem?_drop] at hj
 rw [List.drop_drop, ← Nat.add_mul]
 exact h.2 (i + j) p hj
theorem Reps.ins_ {α : Type} {R : α → List Value → Prop} {k : Nat} {ps : List α} {cs c : List Value} {p : α} (h : Reps R k ps cs) (i : Nat) (hi : i ≤ ps.length) (hp : R p c) (hc : c.length = k) :
 Reps R k (ps.take i ++ p :: ps.drop i) (cs.take (i * k) ++ c ++ cs.drop (i * k)) := by
 have h1 : Reps R k [p] c := ⟨by simp [hc], fun j q hj => by
  cases j with
  | zero => simp at hj; subst hj; simpa [← hc] using hp
  | succ j => simp at hj⟩
 rw [show ps.take i ++ p :: ps.drop i = ps.take i ++ [p] ++ ps.drop i by simp]
 exact Reps.app_ (Reps.app_ (Reps.take_ h i hi) h1) (Reps.drop_ h i)
theorem insertPeer (v : Value) (n i : Nat) (xs news : List Value) (w : World) (b0 vb : Nat) (hown : w.ownsRow b0 98 2 v n xs) (h1x : ∀ u ∈ xs, u.oneCell' = true) (hvb : w.heap[vb]? = some (.cells news.toArray 98 (0, 0))) (hnl : news.length = 2)
 (h1v : ∀ u ∈ news, u.oneCell' = true) (hne : v.ownBlock ≠ some vb) (hi : i ≤ n) (hn : n ≤ 1000000) (hb0 : b0 ≤ w.heap.size) :
 Calls Tryz.prog 46 #[v, .int .i64 i, .slice (some ⟨vb, 0, none⟩) 1 1] w fun e w' => ∃ v', e = .returned v' ∧ w'.ownsRow b0 98 2 v' (n + 1) (xs.take (i * 2) ++ news ++ xs.drop (i * 2)) ∧ w.grownBy w' v.ownBlock := by
 by_cases h : i = n
 ·subst h
  rw [List.take_of_length_le (by rw [hown.1]; exact Nat.le_refl _), List.drop_of_length_le (by rw [hown.1]; exact Nat.le_refl _), List.append_nil]
  exact insertPeerEnd v i xs news w b0 vb hown hvb hnl h1v hn hb0
 ·rcases hown.2 with ⟨hv, h0⟩ | ⟨g, cap, cur, hv, hbg, hg, hnc, hcm, hcs, htake⟩
  ·omega
  ·subst hv
   have hne' : vb ≠ g := fun h => hne (by rw [h]; rfl)
   by_cases hr : n + 1 ≤ cap
   ·exact insertPeerShift g n cap i cur xs news w b0 vb hbg hg hnc hcm hcs htake h1x hvb hnl h1v hne' (by omega) hn hb0 hr
   ·exact insertPeerGrow g n cap i cur xs news w b0 vb hbg hg hnc hcm hcs htake h1x hvb hnl h1v hne' (by omega) hn hb0 (by omega)
theorem insertPeerR {w : World} {base : Nat} {ok : Nat → Prop} {v : Value} {l : List S98} (hR : k98.R 98 w base ok v l) (p : S98) (i vb : Nat) (hvb : w.heap[vb]? = some (.cells #[.int .i64 p.f0, .int .i64 p.f1] 98 (0, 0))) (hne : v.ownBlock ≠ some vb) (hi : i ≤ l.length) (hn : l.length ≤ 1000000) (hb0 : base ≤ w.heap.size) :
 Calls Tryz.prog 46 #[v, .int .i64 i, .slice (some ⟨vb, 0, none⟩) 1 1] w fun e w' => ∃ v', e = .returned v' ∧ k98.R 98 w' base (fun _ => True) v' (l.take i ++ p :: l.drop i) ∧ w.grownBy w' v.ownBlock := by
 obtain ⟨h0, inner, ho, hr⟩ := hR
 have h1x : ∀ u ∈ inner, u.oneCell' = true := by
  intro u hu
  obtain ⟨j, hj, rfl⟩ := List.getElem_of_mem hu
  have hl := hr.1
  have hd : j / 2 < l.length := by rw [Nat.div_lt_iff_lt_mul (by decide)]; rw [show l.length * 2 = inner.length from hl.symm]; exact hj
  have h2 := k98_openM (hr.2 (j / 2) l[j / 2] (List.getElem?_eq_getElem hd))
  have h3 : ((inner.drop (j / 2 * 2)).take 2)[j % 2]? = some inner[j] := by
   rw [List.getElem?_take, if_pos (Nat.mod_lt _ (by decide)), List.getElem?_drop, show j / 2 * 2 + j % 2 = j by omega, List.getElem?_eq_getElem hj]
  rw [show k98.sz = 2 from rfl] at h2
  rw [h2] at h3
  have h4 : j % 2 = 0 ∨ j % 2 = 1 := by omega
  rcases h4 with h4 | h4 <;> rw [h4] at h3 <;> simp at h3 <;> rw [← h3] <;> rfl
 refine (insertPeer v l.length i inner [.int .i64 p.f0, .int .i64 p.f1] w base vb ho h1x hvb rfl (by intro u hu; simp at hu; rcases hu with rfl | rfl <;> rfl) hne hi hn hb0).mono ?_
 rintro e w' ⟨v', rfl, ho', hg⟩
 refine ⟨v', rfl, ⟨fun _ _ => trivial, _, ?_, Reps.ins_ (hr.imp_ (fun q c hq => ?_)) i hi (k98_mkM _ _ _ p) rfl⟩, hg⟩
 ·rw [show (l.take i ++ p :: l.drop i).length = l.length + 1 by rw [List.length_append, List.length_cons, List.length_take, List.length_drop]; omega]
  exact ho'
 ·rw [k98_openM hq]; exact k98_mkM _ _ _ q
end Go.Proofs.YtljipbmmgcccnaaGreat.T
end
section
namespace Go.Proofs.YtljipbmmgcccnaaGreat.T
open Go.RowKit Go.Proofs.YtljipbmmgcccnaaGreatW.PrintWords Go.Proofs.YtljipbmmgcccnaaGreatW.PrintLast Go.Proofs.YtljipbmmgcccnaaGreatW.PrintMore
set_option linter.unusedVariables false
set_option linter.unusedSimpArgs false
theorem below_grow_ {w W W1 : World} {row : Option Nat} (h : Below w.heap.size w W) (hg : W.grownBy W1 row) (hr : ∀ k, row = some k → w.heap.size ≤ k) : Below w.heap.size w W1 :=
 ⟨hg.os.trans h.os, hg.tape.trans h.tape, hg.output.trans h.output, Nat.le_trans h.size hg.size, fun k hk => (hg.block k (Nat.lt_of_lt_of_le hk h.size) (fun e => by have := hr k e.symm; omega)).trans (h.block k hk)⟩
theorem Reps.missed {R : S98 → List Value → Prop} {l : List S98} {cs : List Value} (h : Reps R 2 l cs) (hR : ∀ x c, R x c → c = [.int .i64 x.f0, .int .i64 x.f1]) (hM : ∀ x, R x [.int .i64 x.f0, .int .i64 x.f1]) (i : Nat) (hi : i < l.length) (u : Int) :
 Reps R 2 (l.set i ⟨l[i].f0, u⟩) (cs.set (i * 2 + 1) (.int .i64 u)) := by
 refine ⟨by rw [List.length_set, List.length_set]; exact h.1, fun j p hj => ?_⟩
 rw [List.getElem?_set] at hj
 have hl := h.1
 have seg : ∀ (q : Nat) (hq : q < l.length), (cs.drop (q * 2)).take 2 = [.int .i64 l[q].f0, .int .i64 l[q].f1] := fun q hq => hR _ _ (h.2 q l[q] (List.getElem?_eq_getElem hq))
 have at0 : ∀ (q : Nat) (hq : q < l.length), cs[q * 2]? = some (.int .i64 l[q].f0) ∧ cs[q * 2 + 1]? = some (.int .i64 l[q].f1) := fun q hq => by
  have := seg q hq
  have a0 := congrArg (fun z => z[0]?) this
  have a1 := congrArg (fun z => z[1]?) this
  simp [List.getElem?_take, List.getElem?_drop] at a0 a1
  exact ⟨a0, a1⟩
 have two : ∀ (ds : List Value) (a b : Value), ds[j * 2]? = some a → ds[j * 2 + 1]? = some b → (ds.drop (j * 2)).take 2 = [a, b] := fun ds a b h1 h2 => by
  apply List.ext_getElem?
  intro q
  rw [List.getElem?_take, List.getElem?_drop]
  match q with
  | 0 => simpa using h1
  | 1 => simpa using h2
  | q + 2 => rw [if_neg (by omega)]; rfl
 split at hj
 ·rename_i e
  subst e
  obtain rfl := Option.some.inj hj
  rw [two _ (.int .i64 l[i].f0) (.int .i64 u) (by rw [List.getElem?_set_ne (by omega)]; exact (at0 i hi).1) (by rw [List.getElem?_set_self (by omega)])]
  exact hM ⟨l[i].f0, u⟩
 ·rename_i e
  have hjl : j < l.length := (List.getElem?_eq_some_iff.1 hj).1
  have : l[j] = p := (List.getElem?_eq_some_iff.1 hj).2
  subst this
  rw [two _ (.int .i64 l[j].f0) (.int .i64 l[j].f1) (by rw [List.getElem?_set_ne (by omega)]; exact (at0 j hjl).1) (by rw [List.getElem?_set_ne (by omega)]; exact (at0 j hjl).2)]
  exact hM l[j]
theorem missedR {w : World} {base : Nat} {g cap : Nat} {l : List S98} (hR : k98.R 98 w base (fun _ => True) (.slice (some ⟨g, 0, none⟩) l.length cap) l) (i : Nat) (hi : i < l.length) :
 k98.R 98 (w.setCell ⟨g, i * 2 + 1, none⟩ (.int .i64 0)) base (fun _ => True) (.slice (some ⟨g, 0, none⟩) l.length cap) (l.set i ⟨l[i].f0, 0⟩) := by
 obtain ⟨h0, inner, ho, hr⟩ := hR
 refine ⟨fun _ _ => trivial, inner.set (i * 2 + 1) (.int .i64 0), ?_, ?_⟩
 ·rw [List.length_set]; exact (ho.stored (i * 2 + 1) (.int .i64 0)).1
 ·exact Reps.missed (hr.imp_ (fun q c hq => by rw [k98_openM hq]; exact k98_mkM _ _ _ q)) (fun x c h => k98_openM h) (fun x => k98_mkM _ _ _ x) i hi 0
def heardE (base : Int) (l : List S98) (id : Int) : Int :=
 if peersB base l && placeB id && !(id == base) then (if knownB l id then 0 else if l.length = 16 then 701 else 0) else 700
def heardL (base : Int) (l : List S98) (id : Int) : List S98 :=
 if peersB base l && placeB id && !(id == base) then
  (if knownB l id then l.set (findN base l id) ⟨(l.getD (findN base l id) z98).f0, 0⟩
   else if l.length = 16 then [] else l.take (findN base l id) ++ (⟨id, 0⟩ : S98) :: l.drop (findN base l id))
 else []
set_option maxHeartbeats 2000000 in
theorem peersHeard_a (base id : Int) (A : Option Addr) (c : Nat) (l : List S98) (w : World) (hr : Kd.C k98 w A l.length l) (hc : l.length ≤ c) (h1 : peersB base l = false) :
 Calls Tryz.prog 13 #[.int .i64 base, .slice A l.length c, .int .i64 id] w fun e w' => ∃ v, e = .returned (.tuple #[v, .int .i64 (heardE base l id)]) ∧ k98.R 98 w' w.heap.size (fun _ => True) v (heardL base l id) ∧ Below w.heap.size w w' := by
 have HR := Aside0.mk hr
 have hlen : l.length ≤ 9223372036854775807 := hr.2.1
 have HB := Aside0.mk (Below.refl w.heap.size w)
 have HE := Aside0.mk (show heardE base l id = 700 by unfold heardE; simp [h1])
 have HL := Aside0.mk (show heardL base l id = [] by unfold heardL; simp [h1])
 skip
 clear hr
 go_enter Tryz.func13, Tryz.ntmps13
 go_wp2_with (first | (go_at_call 43; (with_reducible refine (peersMay _ _ _ _ _ (Kd.C_below HR.out (by repeat (first | (with_reducible first | exact HB.out | apply below_alloc | apply pw_below_drewN | apply below_drew1) | exact HB.out))) hc).mono ?_); rintro e wb ⟨rfl, hb⟩; have nb_ := Aside0.mk (below_step (by repeat (first | (with_reducible first | exact HB.out | apply below_alloc | apply pw_below_drewN | apply below_drew1) | exact HB.out)) hb); clear hb; clear HB; have HB := nb_; clear nb_) | (go_at_call 35; (with_reducible refine (place _ _).mono ?_); rintro e w' ⟨rfl, ⟨nd, rfl⟩⟩))
 go_ret2
 exact ⟨.slice none 0 0, by rw [HE.out]; rfl, by rw [HL.out]; exact Kd.R_nil _ _ _ _ _, by repeat (first | (with_reducible first | exact HB.out | apply below_alloc | apply pw_below_drewN | apply below_drew1) | exact HB.out)⟩
set_option maxHeartbeats 2000000 in
theorem peersHeard_b (base id : Int) (A : Option Addr) (c : Nat) (l : List S98) (w : World) (hr : Kd.C k98 w A l.length l) (hc : l.length ≤ c) (h1 : peersB base l = true) (h2 : placeB id = false) :
 Calls Tryz.prog 13 #[.int .i64 base, .slice A l.length c, .int .i64 id] w fun e w' => ∃ v, e = .returned (.tuple #[v, .int .i64 (heardE base l id)]) ∧ k98.R 98 w' w.heap.size (fun _ => True) v (heardL base l id) ∧ Below w.heap.size w w' := by
 have HR := Aside0.mk hr
 have hlen : l.length ≤ 9223372036854775807 := hr.2.1
 have HB := Aside0.mk (Below.refl w.heap.size w)
 have HE := Aside0.mk (show heardE base l id = 700 by unfold heardE; simp [h1, h2])
 have HL := Aside0.mk (show heardL base l id = [] by unfold heardL; simp [h1, h2])
 skip
 clear hr
 go_enter Tryz.func13, Tryz.ntmps13
 go_wp2_with (first | (go_at_call 43; (with_reducible refine (peersMay _ _ _ _ _ (Kd.C_below HR.out (by repeat (first | (with_reducible first | exact HB.out | apply below_alloc | apply pw_below_drewN | apply below_drew1) | exact HB.out))) hc).mono ?_); rintro e wb ⟨rfl, hb⟩; have nb_ := Aside0.mk (below_step (by repeat (first | (with_reducible first | exact HB.out | apply below_alloc | apply pw_below_drewN | apply below_drew1) | exact HB.out)) hb); clear hb; clear HB; have HB := nb_; clear nb_) | (go_at_call 35; (with_reducible refine (place _ _).mono ?_); rintro e w' ⟨rfl, ⟨nd, rfl⟩⟩))
 go_ret2
 exact ⟨.slice none 0 0, by rw [HE.out]; rfl, by rw [HL.out]; exact Kd.R_nil _ _ _ _ _, by repeat (first | (with_reducible first | exact HB.out | apply below_alloc | apply pw_below_drewN | apply below_drew1) | exact HB.out)⟩
set_option maxHeartbeats 2000000 in
theorem peersHeard_c (base id : Int) (A : Option Addr) (c : Nat) (l : List S98) (w : World) (hr : Kd.C k98 w A l.length l) (hc : l.length ≤ c) (h1 : peersB base l = true) (h2 : placeB id = true) (h3 : id = base) :
 Calls Tryz.prog 13 #[.int .i64 base, .slice A l.length c, .int .i64 id] w fun e w' => ∃ v, e = .returned (.tuple #[v, .int .i64 (heardE base l id)]) ∧ k98.R 98 w' w.heap.size (fun _ => True) v (heardL base l id) ∧ Below w.heap.size w w' := by
 have HR := Aside0.mk hr
 have hlen : l.length ≤ 9223372036854775807 := hr.2.1
 have HB := Aside0.mk (Below.refl w.heap.size w)
 have HE := Aside0.mk (show heardE base l id = 700 by unfold heardE; simp [h1, h2, h3])
 have HL := Aside0.mk (show heardL base l id = [] by unfold heardL; simp [h1, h2, h3])
 subst h3
 clear hr
 go_enter Tryz.func13, Tryz.ntmps13
 go_wp2_with (first | (go_at_call 43; (with_reducible refine (peersMay _ _ _ _ _ (Kd.C_below HR.out (by repeat (first | (with_reducible first | exact HB.out | apply below_alloc | apply pw_below_drewN | apply below_drew1) | exact HB.out))) hc).mono ?_); rintro e wb ⟨rfl, hb⟩; have nb_ := Aside0.mk (below_step (by repeat (first | (with_reducible first | exact HB.out | apply below_alloc | apply pw_below_drewN | apply below_drew1) | exact HB.out)) hb); clear hb; clear HB; have HB := nb_; clear nb_) | (go_at_call 35; (with_reducible refine (place _ _).mono ?_); rintro e w' ⟨rfl, ⟨nd, rfl⟩⟩))
 go_ret2
 exact ⟨.slice none 0 0, by rw [HE.out]; rfl, by rw [HL.out]; exact Kd.R_nil _ _ _ _ _, by repeat (first | (with_reducible first | exact HB.out | apply below_alloc | apply pw_below_drewN | apply below_drew1) | exact HB.out)⟩
set_option maxHeartbeats 2000000 in
theorem peersHeard_d (base id : Int) (A : Option Addr) (c : Nat) (l : List S98) (w : World) (hr : Kd.C k98 w A l.length l) (hc : l.length ≤ c) (h1 : peersB base l = true) (h2 : placeB id = true) (h3 : id ≠ base) (h4 : knownB l id = false) (h5 : l.length = 16) :
 Calls Tryz.prog 13 #[.int .i64 base, .slice A l.length c, .int .i64 id] w fun e w' => ∃ v, e = .returned (.tuple #[v, .int .i64 (heardE base l id)]) ∧ k98.R 98 w' w.heap.size (fun _ => True) v (heardL base l id) ∧ Below w.heap.size w w' := by
 have HR := Aside0.mk hr
 have hlen : l.length ≤ 9223372036854775807 := hr.2.1
 have HB := Aside0.mk (Below.refl w.heap.size w)
 have HE := Aside0.mk (show heardE base l id = 701 by unfold heardE; simp [h1, h2, h3, h4, h5])
 have HL := Aside0.mk (show heardL base l id = [] by unfold heardL; simp [h1, h2, h3, h4, h5])
 have h16 := (peersB_base h1).2
 have h5a : ((l.length : Int) == 16) = true := by rw [h5]; rfl
 clear h5
 clear hr
 go_enter Tryz.func13, Tryz.ntmps13
 go_wp2_with (first | (go_at_call 43; (with_reducible refine (peersMay _ _ _ _ _ (Kd.C_below HR.out (by repeat (first | (with_reducible first | exact HB.out | apply below_alloc | apply pw_below_drewN | apply below_drew1) | exact HB.out))) hc).mono ?_); rintro e wb ⟨rfl, hb⟩; have nb_ := Aside0.mk (below_step (by repeat (first | (with_reducible first | exact HB.out | apply below_alloc | apply pw_below_drewN | apply below_drew1) | exact HB.out)) hb); clear hb; clear HB; have HB := nb_; clear nb_) | (go_at_call 35; (with_reducible refine (place _ _).mono ?_); rintro e w' ⟨rfl, ⟨nd, rfl⟩⟩) | (go_at_call 44; (with_reducible refine (clonePeer _ _ _ _ (Kd.C_below HR.out (by repeat (first | (with_reducible first | exact HB.out | apply below_alloc | apply pw_below_drewN | apply below_drew1) | exact HB.out))) hc (by omega)).mono ?_); rintro e wc ⟨v, rfl, hR, hb⟩; obtain ⟨A1, c1, rfl, hc1, hC1⟩ := Kd.R_reads hR; have HRv := Aside0.mk (Kd.R_lower hR (below_size (by repeat (first | (with_reducible first | exact HB.out | apply below_alloc | apply pw_below_drewN | apply below_drew1) | exact HB.out)))); have HC1 := Aside0.mk hC1; have nb_ := Aside0.mk (below_step (by repeat (first | (with_reducible first | exact HB.out | apply below_alloc | apply pw_below_drewN | apply below_drew1) | exact HB.out)) hb); clear hb; clear HB; have HB := nb_; clear nb_ hR hC1) | (go_at_call 45; (with_reducible refine (peersFind _ _ _ _ _ _ HC1.out (by assumption) h1 h2).mono ?_); rintro e wb ⟨rfl, hb⟩; have HRw := Aside0.mk (Kd.R_below HRv.out hb); have nb_ := Aside0.mk (below_step (by repeat (first | (with_reducible first | exact HB.out | apply below_alloc | apply pw_below_drewN | apply below_drew1) | exact HB.out)) hb); clear hb; clear HB; have HB := nb_; clear nb_))
 go_ret2
 exact ⟨.slice none 0 0, by rw [HE.out]; rfl, by rw [HL.out]; exact Kd.R_nil _ _ _ _ _, by repeat (first | (with_reducible first | exact HB.out | apply below_alloc | apply pw_below_drewN | apply below_drew1) | exact HB.out)⟩
set_option maxHeartbeats 2000000 in
theorem peersHeard_e (base id : Int) (A : Option Addr) (c : Nat) (l : List S98) (w : World) (hr : Kd.C k98 w A l.length l) (hc : l.length ≤ c) (h1 : peersB base l = true) (h2 : placeB id = true) (h3 : id ≠ base) (h4 : knownB l id = false) (h5 : l.length ≠ 16) :
 Calls Tryz.prog 13 #[.int .i64 base, .slice A l.length c, .int .i64 id] w fun e w' => ∃ v, e = .returned (.tuple #[v, .int .i64 (heardE base l id)]) ∧ k98.R 98 w' w.heap.size (fun _ => True) v (heardL base l id) ∧ Below w.heap.size w w' := by
 have HR := Aside0.mk hr
 have hlen : l.length ≤ 9223372036854775807 := hr.2.1
 have HB := Aside0.mk (Below.refl w.heap.size w)
 have HE := Aside0.mk (show heardE base l id = 0 by unfold heardE; simp [h1, h2, h3, h4, h5])
 have HL := Aside0.mk (show heardL base l id = l.take (findN base l id) ++ (⟨id, 0⟩ : S98) :: l.drop (findN base l id) by unfold heardL; simp [h1, h2, h3, h4, h5])
 have h16 := (peersB_base h1).2
 have hN : findN base l id ≤ l.length := (cnt_spec _ _ (peerC_mono h1 id)).1
 clear hr
 go_enter Tryz.func13, Tryz.ntmps13
 go_wp2_with (first | (go_at_call 43; (with_reducible refine (peersMay _ _ _ _ _ (Kd.C_below HR.out (by repeat (first | (with_reducible first | exact HB.out | apply below_alloc | apply pw_below_drewN | apply below_drew1) | exact HB.out))) hc).mono ?_); rintro e wb ⟨rfl, hb⟩; have nb_ := Aside0.mk (below_step (by repeat (first | (with_reducible first | exact HB.out | apply below_alloc | apply pw_below_drewN | apply below_drew1) | exact HB.out)) hb); clear hb; clear HB; have HB := nb_; clear nb_) | (go_at_call 35; (with_reducible refine (place _ _).mono ?_); rintro e w' ⟨rfl, ⟨nd, rfl⟩⟩) | (go_at_call 44; (with_reducible refine (clonePeer _ _ _ _ (Kd.C_below HR.out (by repeat (first | (with_reducible first | exact HB.out | apply below_alloc | apply pw_below_drewN | apply below_drew1) | exact HB.out))) hc (by omega)).mono ?_); rintro e wc ⟨v, rfl, hR, hb⟩; obtain ⟨A1, c1, rfl, hc1, hC1⟩ := Kd.R_reads hR; have HRv := Aside0.mk (Kd.R_lower hR (below_size (by repeat (first | (with_reducible first | exact HB.out | apply below_alloc | apply pw_below_drewN | apply below_drew1) | exact HB.out)))); have HC1 := Aside0.mk hC1; have nb_ := Aside0.mk (below_step (by repeat (first | (with_reducible first | exact HB.out | apply below_alloc | apply pw_below_drewN | apply below_drew1) | exact HB.out)) hb); clear hb; clear HB; have HB := nb_; clear nb_ hR hC1) | (go_at_call 45; (with_reducible refine (peersFind _ _ _ _ _ _ HC1.out (by assumption) h1 h2).mono ?_); rintro e wb ⟨rfl, hb⟩; have HRw := Aside0.mk (Kd.R_below HRv.out hb); have nb_ := Aside0.mk (below_step (by repeat (first | (with_reducible first | exact HB.out | apply below_alloc | apply pw_below_drewN | apply below_drew1) | exact HB.out)) hb); clear hb; clear HB; have HB := nb_; clear nb_) | (go_at_call 46; (with_reducible refine (insertPeerR (Kd.R_alloc HRw.out _) ⟨id, 0⟩ (findN base l id) _ (blk_new _ _) (fun h => absurd (Kd.R_lt HRw.out _ h) (Nat.lt_irrefl _)) hN (by omega) (below_size (by repeat (first | (with_reducible first | exact HB.out | apply below_alloc | apply pw_below_drewN | apply below_drew1) | exact HB.out)))).mono ?_); rintro e wi ⟨v1, rfl, hR1, hg1⟩; have HR1 := Aside0.mk hR1; have nb_ := Aside0.mk (below_grow_ (by repeat (first | (with_reducible first | exact HB.out | apply below_alloc | apply pw_below_drewN | apply below_drew1) | exact HB.out)) hg1 (fun k hk => Kd.R_base HRw.out k hk)); clear hR1 hg1; clear HB; have HB := nb_; clear nb_))
 go_ret2
 exact ⟨v1, by rw [HE.out]; rfl, by rw [HL.out]; exact HR1.out, by repeat (first | (with_reducible first | exact HB.out | apply below_alloc | apply pw_below_drewN | apply below_drew1) | exact HB.out)⟩
set_option maxHeartbeats 2000000 in
theorem peersHeard_f (base id : Int) (A : Option Addr) (c : Nat) (l : List S98) (w : World) (hr : Kd.C k98 w A l.length l) (hc : l.length ≤ c) (h1 : peersB base l = true) (h2 : placeB id = true) (h3 : id ≠ base) (h4 : knownB l id = true) :
 Calls Tryz.prog 13 #[.int .i64 base, .slice A l.length c, .int .i64 id] w fun e w' => ∃ v, e = .returned (.tuple #[v, .int .i64 (heardE base l id)]) ∧ k98.R 98 w' w.heap.size (fun _ => True) v (heardL base l id) ∧ Below w.heap.size w w' := by
 have HR := Aside0.mk hr
 have hlen : l.length ≤ 9223372036854775807 := hr.2.1
 have HB := Aside0.mk (Below.refl w.heap.size w)
 have HE := Aside0.mk (show heardE base l id = 0 by unfold heardE; simp [h1, h2, h3, h4])
 have HL := Aside0.mk (show heardL base l id = l.set (findN base l id) ⟨(l.getD (findN base l id) z98).f0, 0⟩ by unfold heardL; simp [h1, h2, h3, h4])
 have h16 := (peersB_base h1).2
 have hlt : findN base l id < l.length := by
  have h := findB_known h1 h2
  rw [h4] at h
  unfold hit at h
  exact of_decide_eq_true (Bool.and_eq_true_iff.1 h).1
 have hpos : 0 < l.length := by omega
 clear hr
 go_enter Tryz.func13, Tryz.ntmps13
 go_wp2_with (first | (go_at_call 43; (with_reducible refine (peersMay _ _ _ _ _ (Kd.C_below HR.out (by repeat (first | (with_reducible first | exact HB.out | apply below_alloc | apply pw_below_drewN | apply below_drew1) | exact HB.out))) hc).mono ?_); rintro e wb ⟨rfl, hb⟩; have nb_ := Aside0.mk (below_step (by repeat (first | (with_reducible first | exact HB.out | apply below_alloc | apply pw_below_drewN | apply below_drew1) | exact HB.out)) hb); clear hb; clear HB; have HB := nb_; clear nb_) | (go_at_call 35; (with_reducible refine (place _ _).mono ?_); rintro e w' ⟨rfl, ⟨nd, rfl⟩⟩) | (go_at_call 44; (with_reducible refine (clonePeer _ _ _ _ (Kd.C_below HR.out (by repeat (first | (with_reducible first | exact HB.out | apply below_alloc | apply pw_below_drewN | apply below_drew1) | exact HB.out))) hc (by omega)).mono ?_); rintro e wc ⟨v, rfl, hR, hb⟩; obtain ⟨A1, c1, rfl, hc1, hC1⟩ := Kd.R_reads hR; have HRv := Aside0.mk (Kd.R_lower hR (below_size (by repeat (first | (with_reducible first | exact HB.out | apply below_alloc | apply pw_below_drewN | apply below_drew1) | exact HB.out)))); have HC1 := Aside0.mk hC1; have nb_ := Aside0.mk (below_step (by repeat (first | (with_reducible first | exact HB.out | apply below_alloc | apply pw_below_drewN | apply below_drew1) | exact HB.out)) hb); clear hb; clear HB; have HB := nb_; clear nb_ hR hC1) | (go_at_call 45; (with_reducible refine (peersFind _ _ _ _ _ _ HC1.out (by assumption) h1 h2).mono ?_); rintro e wb ⟨rfl, hb⟩; have hRw := Kd.R_below HRv.out hb; have hC2 := Kd.C_below HC1.out hb; obtain ⟨g, cap, hv, hbg, hgl, cells, hcells⟩ := Kd.R_form hRw hpos; injection hv with hv1 hv2 hv3; subst hv1; subst hv3; obtain ⟨ad, e1, hx0, hx1⟩ := peer_at hC2 (findN base l id) hlt; obtain rfl := Option.some.inj e1; simp only [Addr.add_lit, Nat.zero_add] at hx0 hx1; have hfz := blk_frozen hcells (findN base l id * 2 + 1); have HGE := Aside0.mk hbg; have HRw := Aside0.mk hRw; have nb_ := Aside0.mk (below_step (by repeat (first | (with_reducible first | exact HB.out | apply below_alloc | apply pw_below_drewN | apply below_drew1) | exact HB.out)) hb); clear hb hRw hC2 hcells hgl hbg hv2 e1; clear HB; have HB := nb_; clear nb_))
 go_ret2
 exact ⟨_, by rw [HE.out]; rfl, by rw [HL.out, peer_getD hlt]; exact missedR HRw.out _ hlt, by repeat (first | (with_reducible first | exact HB.out | apply below_alloc | apply pw_below_drewN | apply below_drew1 | refine below_set ?_ HGE.out) | exact HB.out)⟩
theorem peersHeard (base id : Int) (A : Option Addr) (c : Nat) (l : List S98) (w : World) (hr : Kd.C k98 w A l.length l) (hc : l.length ≤ c) :
 Calls Tryz.prog 13 #[.int .i64 base, .slice A l.length c, .int .i64 id] w fun e w' => ∃ v, e = .returned (.tuple #[v, .int .i64 (heardE base l id)]) ∧ k98.R 98 w' w.heap.size (fun _ => True) v (heardL base l id) ∧ Below w.heap.size w w' := by
 cases h1 : peersB base l
 ·exact peersHeard_a base id A c l w hr hc h1
 ·cases h2 : placeB id
  ·exact peersHeard_b base id A c l w hr hc h1 h2
  ·by_cases h3 : id = base
   ·exact peersHeard_c base id A c l w hr hc h1 h2 h3
   ·cases h4 : knownB l id
    ·by_cases h5 : l.length = 16
     ·exact peersHeard_d base id A c l w hr hc h1 h2 h3 h4 h5
     ·exact peersHeard_e base id A c l w hr hc h1 h2 h3 h4 h5
    ·exact peersHeard_f base id A c l w hr hc h1 h2 h3 h4
end Go.Proofs.YtljipbmmgcccnaaGreat.T
end
section
namespace Go.Proofs.YtljipbmmgcccnaaGreat.T
open Go.RowKit Go.Proofs.YtljipbmmgcccnaaGreatW.PrintWords Go.Proofs.YtljipbmmgcccnaaGreatW.PrintLast Go.Proofs.YtljipbmmgcccnaaGreatW.PrintMore
set_option linter.unusedVariables false
set_option linter.unusedSimpArgs false
theorem own_setCells {base : Nat} {e : TypeId} {g n cap : Nat} : ∀ (vs : List Value) (o : Nat) (w : World) (xs : List Value), w.ownsRow base e 1 (.slice (some ⟨g, 0, none⟩) n cap) n xs →
 ∃ ys, (w.setCells g o vs).ownsRow base e 1 (.slice (some ⟨g, 0, none⟩) n cap) n ys ∧ ys.take o = xs.take o ∧ w.grownBy (w.setCells g o vs) (some g)
 | [], o, w, xs, h => ⟨xs, h, rfl, World.grownBy.refl w _⟩
 | v :: r, o, w, xs, h => by
   obtain ⟨h1, h2⟩ := h.stored o v
   obtain ⟨ys, h3, h4, h5⟩ := own_setCells r (o + 1) _ _ h1
   refine ⟨ys, h3, ?_, ⟨h5.os.trans h2.os, h5.tape.trans h2.tape, h5.output.trans h2.output, Nat.le_trans h2.size h5.size, fun k hk hne => (h5.block k (Nat.lt_of_lt_of_le hk h2.size) hne).trans (h2.block k hk hne)⟩⟩
   have := congrArg (fun z => z.take o) h4
   simp only [List.take_take, Nat.min_eq_left (Nat.le_succ o)] at this
   rw [this, List.take_set_of_le (Nat.le_refl o)]
theorem isAt (id x : Int) (B : Nat) (w : World) (hc : w.cell? ⟨B, 0, none⟩ = some (.int .i64 id)) :
 Calls Tryz.prog 48 (#[.int .i64 x] ++ #[.pointer (some ⟨B, 0, none⟩)]) w fun e w' => e = .returned (.bool (x == id)) ∧ Drawn0 w w' := by
 go_enter Tryz.func48, Tryz.ntmps48
 go_wp2
 go_ret
 exact ⟨rfl, by repeat (first | exact Drawn0.refl _ | apply Drawn0.step)⟩
def KeptI (p : Int → Bool) (xs : List Int) (i j : Nat) (D : List Int) : Prop := D.length = xs.length ∧ i < j ∧ j ≤ xs.length ∧ D.drop j = xs.drop j ∧ D.take i = (xs.take j).filter fun x => !p x
theorem KeptI.at_ {p : Int → Bool} {xs D : List Int} {i j : Nat} (h : KeptI p xs i j D) (hj : j < xs.length) : D.getD j 0 = xs[j] := by
 have := congrArg (fun z => z[0]?) h.2.2.2.1
 simp only [List.getElem?_drop, Nat.add_zero] at this
 rw [List.getD_eq_getElem?_getD, this, List.getElem?_eq_getElem hj]; rfl
theorem KeptI.skip {p : Int → Bool} {xs D : List Int} {i j : Nat} (h : KeptI p xs i j D) (hj : j < xs.length) (hp : p xs[j] = true) : KeptI p xs i (j + 1) D := by
 refine ⟨h.1, by have := h.2.1; omega, hj, ?_, ?_⟩
 ·have := congrArg (List.drop 1) h.2.2.2.1
  simpa [List.drop_drop] using this
 ·rw [h.2.2.2.2, List.take_succ_eq_append_getElem hj, List.filter_append]; simp [hp]
theorem KeptI.keep {p : Int → Bool} {xs D : List Int} {i j : Nat} (h : KeptI p xs i j D) (hj : j < xs.length) (hp : p xs[j] = false) : KeptI p xs (i + 1) (j + 1) (D.set i xs[j]) := by
 refine ⟨by rw [List.length_set]; exact h.1, by have := h.2.1; omega, hj, ?_, ?_⟩
 ·rw [List.drop_set_of_lt (by have := h.2.1; omega)]
  have := congrArg (List.drop 1) h.2.2.2.1
  simpa [List.drop_drop] using this
 ·have hi : i < (D.set i xs[j]).length := by rw [List.length_set, h.1]; have := h.2.1; omega
  rw [List.take_succ_eq_append_getElem hi, List.take_set_of_le (Nat.le_refl i), List.getElem_set_self, h.2.2.2.2, List.take_succ_eq_append_getElem hj, List.filter_append]; simp [hp]
theorem KeptI.start {p : Int → Bool} {xs : List Int} {k : Nat} (hk : k < xs.length) (hp : p xs[k] = true) (hall : ∀ j (h : j < xs.length), j < k → p xs[j] = false) : KeptI p xs k (k + 1) xs := by
 refine ⟨rfl, by omega, hk, rfl, ?_⟩
 rw [List.take_succ_eq_append_getElem hk, List.filter_append]
 have : (xs.take k).filter (fun x => !p x) = xs.take k := by
  rw [List.filter_eq_self]
  intro a ha
  obtain ⟨j, hj, rfl⟩ := List.getElem_of_mem ha
  rw [List.length_take] at hj
  rw [List.getElem_take, hall j (by omega) (by omega)]; rfl
 rw [this]; simp [hp]
theorem own_takeR {w : World} {base g n cap i : Nat} {ys : List Value} (ho : w.ownsRow base 3 1 (.slice (some ⟨g, 0, none⟩) n cap) n ys) (hi : i ≤ n) (zs : List Int) (h : ys.take i = encs (Value.int .i64) zs) (hz : zs.length = i) :
 (Kd.int .i64).R 3 w base (fun _ => True) (.slice (some ⟨g, 0, none⟩) i cap) zs := by
 subst hz
 refine Kd.R_of_own (h1 := fun _ => rfl) ?_ (fun _ _ => trivial)
 rcases ho.2 with ⟨h', _⟩ | ⟨g', cap', cur, h', hb, hg, hnc, hcm, hcs, htake⟩
 ·simp at h'
 ·injection h' with a b c
  injection a with a
  injection a with a
  subst a
  subst c
  refine ⟨by simp [encs], .inr ⟨g, cap, cur, rfl, hb, hg, by omega, hcm, hcs, ?_⟩⟩
  rw [← h, ← htake, List.take_take, Nat.mul_one, Nat.mul_one, Nat.min_eq_left hi]
theorem grown_drewN_ {w W : World} {row : Option Nat} (h : w.grownBy W row) (n : Nat) : w.grownBy (W.drewN n) row := ⟨h.os, h.tape, h.output, h.size, h.block⟩
theorem grown_set_ {w W : World} {g : Nat} (h : w.grownBy W (some g)) (n i : Nat) (u : Value) : w.grownBy ((W.drewN n).setCell ⟨g, i, none⟩ u) (some g) :=
 ⟨h.os, h.tape, h.output, by have := h.size; simp only [World.setCell, World.drewN, Array.size_modify]; exact this, fun k hk hne => (Below.heap_setCell _ ⟨g, i, none⟩ u k (fun e => hne (by rw [e]))).trans (h.block k hk hne)⟩
set_option maxHeartbeats 2000000 in
theorem deleteInt (id : Int) (B : Nat) (v : Value) (xs : List Int) (w : World) (base : Nat) (hR : (Kd.int .i64).R 3 w base (fun _ => True) v xs) (hc : w.cell? ⟨B, 0, none⟩ = some (.int .i64 id)) (hne : v.ownBlock ≠ some B) (hn : xs.length ≤ 1000000) :
 Calls Tryz.prog 49 #[v, .func (.func 48) #[] #[.pointer (some ⟨B, 0, none⟩)]] w fun e w' => ∃ v', e = .returned v' ∧ (Kd.int .i64).R 3 w' base (fun _ => True) v' (xs.filter fun x => !(x == id)) ∧ w.grownBy w' v.ownBlock := by
 obtain ⟨A, c, rfl, hlc, hC⟩ := Kd.R_reads hR
 have HR := Aside0.mk hR
 have HI := Aside0.mk (anyIntIdx 48 #[.pointer (some ⟨B, 0, none⟩)] (enters_of Tryz.func48 (by kernel_rfl) rfl) (fun x => x == id) A c xs w hC hlc (fun W hb i h => (isAt id xs[i] B W (cell_b hc hb)).mono (by rintro e w' ⟨rfl, nd, rfl⟩; exact ⟨rfl, pw_below_drewN (Below.refl _ _) nd⟩)))
 have hcB := Aside0.mk hc
 clear hR hC hc
 cases hany : (xs.any fun x => x == id)
 ·have hf := Aside0.mk (show (xs.filter fun x => !(x == id)) = xs by
   rw [List.filter_eq_self]; intro a ha; rw [List.any_eq_false] at hany; simpa using hany a ha)
  have HN := Aside0.mk hany
  clear hany
  go_enter Tryz.func49, Tryz.ntmps49
  go_wp2_with (first | (go_at_call 105; (with_reducible refine HI.out.mono ?_); rintro e wi ⟨k, rfl, hk, hk2, hb⟩; rw [HN.out] at hk; have hk3 := of_decide_eq_false hk; obtain rfl : k = -1 := (by have := hk2.1; omega); have HBI := Aside0.mk hb; clear hk hk2 hb hk3))
  go_ret
  exact ⟨_, rfl, by rw [hf.out]; exact Kd.R_below HR.out HBI.out, grown_of_below HBI.out _⟩
 ·obtain ⟨g, cap, hv, hbg, hgl, cells, hcells⟩ := Kd.R_form HR.out (by rcases xs with _ | ⟨a, r⟩; · simp at hany
                                                                       ·simp)
  injection hv with hv1 hv2 hv3
  subst hv1
  subst hv3
  have hgB : B ≠ g := fun h => hne (by rw [h]; rfl)
  have HN := Aside0.mk hany
  clear hany hcells hne hv2
  go_enter Tryz.func49, Tryz.ntmps49
  go_wp2_with (first | (go_at_call 105; (with_reducible refine HI.out.mono ?_); rintro e wi ⟨k, rfl, hk, hk2, hb⟩; rw [HN.out] at hk; obtain ⟨k0, rfl⟩ : ∃ k0 : Nat, k = k0 := ⟨k.toNat, by have := of_decide_eq_true hk; omega⟩; obtain ⟨hk0, hp0, hall0⟩ := hk2.2 k0 rfl; have HS := Aside0.mk (KeptI.start (p := fun x => x == id) hk0 hp0 hall0); have HBI := Aside0.mk hb; have HRI := Aside0.mk (Kd.R_below HR.out hb); clear hk hk2 hb hp0 hall0))
  clear HI
  go_loopg [5, 6, 7] xs.length (fun kq s5 s6 s7 w' => ∃ (i j : Nat) (D : List Int), s5 = .int .i64 i ∧ s6 = .int .i64 j ∧ j ≤ xs.length ∧ xs.length - j ≤ kq ∧ Aside0 (KeptI (fun x => x == id) xs i j D) ∧ Aside0 ((Kd.int .i64).R 3 w' base (fun _ => True) (.slice (some ⟨g, 0, none⟩) D.length c) D) ∧ Aside0 (w.grownBy w' (some g)))
  case atStart => exact ⟨k0, k0 + 1, xs, rfl, by go_num, hk0, by omega, HS, HRI, ⟨grown_of_below HBI.out _⟩⟩
  case round =>
   clear HS HRI HBI
   obtain ⟨i, j, D, rfl, rfl, hj, hkq, HK, HD, HG⟩ := hrel
   have hDl := Aside0.mk HK.out.1
   have hij := HK.out.2.1
   have hcb := HG.out.cell hcB.out (fun h => hgB (Option.some.inj h))
   by_cases hlt : j < xs.length
   ·obtain ⟨hcj, _⟩ := Kd.R_cell 0 HD.out (j : Int) (by omega) (by rw [hDl.out]; omega)
    obtain ⟨hci, hfi⟩ := Kd.R_cell 0 HD.out (i : Int) (by omega) (by rw [hDl.out]; omega)
    have hgj : rdOf 0 D (j : Int) = xs[j] := by unfold rdOf; rw [Int.toNat_natCast]; exact HK.out.at_ hlt
    rw [hgj] at hcj
    simp only [Int.toNat_natCast] at hcj hci hfi
    clear hgj
    have hcal : Calls Tryz.prog 48 #[.int .i64 xs[j], .pointer (some ⟨B, 0, none⟩)] _ _ := isAt id xs[j] B _ hcb
    cases hp : (xs[j] == id)
    ·rw [hp] at hcal
     go_wp2_with (first | (go_at_call 48; (with_reducible refine hcal.mono ?_); rintro e wb ⟨rfl, ⟨nd, rfl⟩⟩))
     go_roundg (xs.length - (j + 1))
     case measure => omega
     case rel => exact ⟨i + 1, j + 1, D.set i xs[j], by go_num, by go_num, by omega, Nat.le_refl _, ⟨HK.out.keep hlt hp⟩, ⟨by rw [List.length_set]; exact (Kd.R_put (Kd.R_drewN HD.out nd) (i : Int) xs[j]).1⟩, ⟨grown_set_ (HG.out) nd _ _⟩⟩
    ·rw [hp] at hcal
     go_wp2_with (first | (go_at_call 48; (with_reducible refine hcal.mono ?_); rintro e wb ⟨rfl, ⟨nd, rfl⟩⟩))
     go_roundg (xs.length - (j + 1))
     case measure => omega
     case rel => exact ⟨i, j + 1, D, rfl, by go_num, by omega, Nat.le_refl _, ⟨HK.out.skip hlt hp⟩, ⟨Kd.R_drewN HD.out nd⟩, ⟨grown_drewN_ HG.out nd⟩⟩
   ·obtain rfl : j = xs.length := by omega
    have hcl : ∀ ty, (Builtin.clear_ #[23] ty #[.slice (some ⟨g, i, none⟩) (xs.length - i) (c - i)]).run Tryz.prog wr = .ok (.tuple #[]) (wr.setCells g i (List.replicate (xs.length - i) (.int .i64 0))) := fun ty =>
     Lib.run_clear_slice wr 23 3 ty _ Tryz.underlying23 Tryz.zeroValue3 rfl rfl g i _ _ (by omega) (fun t ht => by
      have := (Kd.R_cell 0 HD.out ((i + t : Nat) : Int) (by omega) (by rw [hDl.out]; omega)).1
      rw [Int.toNat_natCast] at this; rw [this]; rfl) (fun t ht => by
      have := (Kd.R_cell 0 HD.out ((i + t : Nat) : Int) (by omega) (by rw [hDl.out]; omega)).2
      rwa [Int.toNat_natCast] at this)
    have hb1 : ¬ c = i := by omega
    go_wp2
    go_ret
    obtain ⟨ys, ho, hyt, hgr⟩ := own_setCells (List.replicate (xs.length - i) (.int .i64 0)) i wr _ (Kd.own_of_R HD.out)
    have hf := HK.out.2.2.2.2
    rw [List.take_length] at hf
    refine ⟨_, rfl, own_takeR ho (by rw [hDl.out]; omega) _ ?_ ?_, ⟨hgr.os.trans HG.out.os, hgr.tape.trans HG.out.tape, hgr.output.trans HG.out.output, Nat.le_trans HG.out.size hgr.size, fun k hk hne => (hgr.block k (Nat.lt_of_lt_of_le hk HG.out.size) hne).trans (HG.out.block k hk hne)⟩⟩
    ·rw [hyt, ← hf]; simp [encs, List.map_take]
    ·rw [← hf, List.length_take, hDl.out]; omega
end Go.Proofs.YtljipbmmgcccnaaGreat.T
end
