/- Words and lemmas that the claim's proof names, part 13: what the program's functions answer, at the inputs that each theorem's premises name. Conditions: each theorem's own premises. -/
import Derived.Test.YtljipbmmgcccnaaGreatKC12
section
namespace Go.Proofs.YtljipbmmgcccnaaGreat.T
open Go.RowKit Go.Proofs.YtljipbmmgcccnaaGreatW.PrintWords Go.Proofs.YtljipbmmgcccnaaGreatW.PrintLast Go.Proofs.YtljipbmmgcccnaaGreatW.PrintMore
attribute [local go_sem] cell_tc frozen_tc max2_int min2_int
attribute [local go_sem ↓] Go.wp_at_zero Go.wp_at_succ
set_option linter.unusedVariables false
set_option linter.unusedSimpArgs false
set_option synthInstance.maxHeartbeats 400000
set_option synthInstance.maxSize 512
attribute [local go_sem] cell_tc2 frozen_row
set_option maxRecDepth 100000 in
set_option maxHeartbeats 4000000 in
theorem len64_ {n : Nat} {w : World} (hn : n ≤ 12) : Calls Tryz.prog 223 #[.int .u64 n] w fun e w' => ∃ l : Int, e = .returned (.int .i64 l) ∧ Drawn0 w w' := by
  have hn2 : (n : Int) ≤ 12 := by omega
  have hn3 : (0 : Int) ≤ (n : Int) := by omega
  have c1 : decide ((4294967296 : Int) ≤ (n : Int)) = false := decide_eq_false (by omega)
  have c2 : decide ((65536 : Int) ≤ (n : Int)) = false := decide_eq_false (by omega)
  have c3 : decide ((256 : Int) ≤ (n : Int)) = false := decide_eq_false (by omega)
  go_enter Tryz.func223, Tryz.ntmps223
  go_wp2
  go_ret
  exact ⟨_, rfl, by repeat (first | exact Drawn0.refl _ | apply Drawn0.step)⟩
set_option maxRecDepth 100000 in
set_option maxHeartbeats 8000000 in
theorem pdq_ {lim : Int} {base : Int} {gb t g n c b : Nat} {S : Nat → Prop} {l : List Int} {w : World} [hb : Blk w gb #[.int .i64 base] t] [h : Fr kI 3 w b S (some ⟨g, 0, none⟩) n c l] [av : Avoid gb b S] [lb : LeB b w.heap.size] [row : Row w g] [geb : GeB b g] (h0 : placeB base = true) (h1 : placesB l = true) (hnd : l.Nodup) (hn : n ≤ 12) (hp : 0 < n) :
    Calls Tryz.prog 201 #[.slice (some ⟨g, 0, none⟩) n c, .int .i64 0, .int .i64 n, .int .i64 lim, .func (.func 177) #[] #[.pointer (some ⟨gb, 0, none⟩)]] w fun e w' => ∃ l', e = .returned (.tuple #[]) ∧ l'.Perm l ∧ Rises (farI base) l' ∧ FrL kI 3 w' b (But gb) (some ⟨g, 0, none⟩) n c l' ∧ BbL b w w'  := by
  have HI := Aside0.mk (insertion_ (w := w) (gb := gb) (g := g) (c := c) h0 h1 hnd hn hp)
  clear h hb av row
  go_enter Tryz.func201, Tryz.ntmps201
  go_wp2
  refine wp_loop_rounds 1 ?_
  rw [rounds_succ]
  go_wp2_with (first | (go_at_call 214; (with_reducible refine Calls.mono HI.out ?_); rintro e w1 ⟨l', rfl, hP, hR, hF, hB⟩))
  (try simp only [Exit.inBlock, Exit.then]); refine bodyPost_ret (results_none rfl _ _ _) rfl ?_
  exact ⟨l', rfl, hP, hR, hF, hB⟩
set_option maxHeartbeats 4000000 in
theorem len_ {n : Nat} {w : World} (hn : n ≤ 12) : Calls Tryz.prog 202 #[.int .u64 n] w fun e w' => ∃ l : Int, e = .returned (.int .i64 l) ∧ Drawn0 w w' := by
  have hn2 : (n : Int) ≤ 12 := by omega
  go_enter Tryz.func202, Tryz.ntmps202
  go_wp2_with (first | (go_at_call 223; (with_reducible refine Calls.mono (len64_ hn) ?_); rintro e w' ⟨l, rfl, ⟨nd, rfl⟩⟩))
  go_ret
  exact ⟨_, rfl, by repeat (first | exact Drawn0.refl _ | apply Drawn0.step)⟩
set_option maxRecDepth 100000 in
set_option maxHeartbeats 8000000 in
theorem sortFunc_ {base : Int} {gb t g n c b : Nat} {S : Nat → Prop} {l : List Int} {w : World} [hb : Blk w gb #[.int .i64 base] t] [h : Fr kI 3 w b S (some ⟨g, 0, none⟩) n c l] [av : Avoid gb b S] [lb : LeB b w.heap.size] [row : Row w g] [geb : GeB b g] (h0 : placeB base = true) (h1 : placesB l = true) (hnd : l.Nodup) (hn : n ≤ 12) (hp : 0 < n) :
    Calls Tryz.prog 175 #[.slice (some ⟨g, 0, none⟩) n c, .func (.func 177) #[] #[.pointer (some ⟨gb, 0, none⟩)]] w fun e w' => ∃ l', e = .returned (.tuple #[]) ∧ l'.Perm l ∧ Rises (farI base) l' ∧ FrL kI 3 w' b (But gb) (some ⟨g, 0, none⟩) n c l' ∧ BbL b w w'  := by
  have s1 : FrL kI 3 w b (But gb) (some ⟨g, 0, none⟩) n c l := frl_but
  have k1 : BlkL w gb #[.int .i64 base] t := blkL
  have k3 : RowL w g := ⟨row.out⟩
  have hn2 : (n : Int) ≤ 12 := by omega
  clear h hb av row
  go_enter Tryz.func175, Tryz.ntmps175
  go_wp2_with (first | (go_at_call 202; (with_reducible refine Calls.mono (len_ hn) ?_); rintro e w' ⟨lim, rfl, ⟨nd, rfl⟩⟩) | (go_at_call 201; (with_reducible refine Calls.mono (pdq_ h0 h1 hnd hn hp) ?_); rintro e w1 ⟨l', rfl, hP, hR, hF, hB⟩))
  go_end0
  exact ⟨l', rfl, hP, hR, hF, bbL⟩
set_option maxRecDepth 100000 in
set_option maxHeartbeats 8000000 in
theorem compact_ {A : Option Addr} {n c : Nat} {l : List Int} {w : World} [h : Sr kI w A n c l] (hnd : l.Nodup) (hn : n ≤ 1000) :
    Calls Tryz.prog 136 #[.slice A n c] w fun e w' => e = .returned (.slice A n c) ∧ BelL w w' := by
  obtain rfl := h.len
  have s1 := sr_l h
  clear h
  by_cases h2 : l.length < 2
  · have e1 : decide ((l.length : Int) < 2) = true := decide_eq_true (by omega)
    go_enter Tryz.func136, Tryz.ntmps136
    go_wp2
    go_ret
    exact ⟨rfl, belL⟩
  · have e1 : decide ((l.length : Int) < 2) = false := decide_eq_false (by omega)
    go_enter Tryz.func136, Tryz.ntmps136
    go_wp2
    go_loopg [3] (l.length - 1) (fun kq v3 w' => ∃ i : Nat, v3 = .int .i64 i ∧ 1 ≤ i ∧ i ≤ l.length ∧ kq = l.length - i ∧ BelL w w')
    case atStart => exact ⟨1, rfl, Nat.le_refl 1, by omega, rfl, belL⟩
    case round =>
      obtain ⟨i, rfl, hi1, hi, rfl, hbr⟩ := hrel
      by_cases hlt : i < l.length
      · obtain ⟨j, rfl⟩ : ∃ j, i = j + 1 := ⟨i - 1, by omega⟩
        obtain ⟨ad, rfl, x0⟩ := el_I (W := wr) (A := A) (n := l.length) (c := c) (l := l) (j + 1) hlt
        obtain ⟨ad2, e2, x1⟩ := el_I (W := wr) (A := some ad) (n := l.length) (c := c) (l := l) j (by omega)
        injection e2 with e2
        subst e2
        have hne : (l[j + 1] == l[j]) = false := by
          have : l[j] ≠ l[j + 1] := fun e => by have := (List.getElem_inj hnd).1 e; omega
          simpa using fun e => this e.symm
        have n0 : (0 : Int) ≤ (j : Int) := by omega
        have n1 : (0 : Int) ≤ (j : Int) + 1 := by omega
        have n2 : (j : Int) + 1 < (l.length : Int) := by omega
        have n3 : (j : Int) < (l.length : Int) := by omega
        have t1 : ((j : Int) + 1).toNat = j + 1 := by omega
        have w0 : IntKind.i64.wrap (j : Int) = (j : Int) := by rw [IntKind.wrap_i64]; omega
        have w1 : IntKind.i64.wrap ((j : Int) + 1 - 1) = (j : Int) := by rw [IntKind.wrap_i64]; omega
        have w2 : (j : Int) + 1 - 1 = (j : Int) := by omega
        generalize l[j + 1] = y at x0 hne
        generalize l[j] = z at x1 hne
        have x0b : CellL wr { block := ad.block, off := ad.off + (j + 1) } (.int .i64 y) := ⟨by have := x0.out; rwa [Addr.add_succ'] at this⟩
        go_upto_region 6 with fail
        refine wp_letter fun w6 hb6 => ?_
        go_region_held3 (fun w_ => BelL w6 w_) (first | exact belL) (fail)
        all_goals
          go_wp2
          go_roundg (l.length - (j + 1 + 1))
          case measure => clear w0 w1 w2 t1; omega
          case rel => clear w0 w1 w2 t1; exact ⟨j + 1 + 1, by go_num, by omega, by omega, rfl, belL⟩
      · obtain rfl : i = l.length := by omega
        go_wp2
        go_ret
        exact ⟨rfl, belL⟩
end Go.Proofs.YtljipbmmgcccnaaGreat.T
end
