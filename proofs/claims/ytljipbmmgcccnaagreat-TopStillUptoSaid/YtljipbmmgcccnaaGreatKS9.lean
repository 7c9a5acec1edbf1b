/- Words and lemmas that the claim's proof names, part 9: what the program's functions answer, at the inputs that each theorem's premises name. Conditions: each theorem's own premises. -/
import Derived.Test.YtljipbmmgcccnaaGreatKS8
section
namespace Go.Proofs.YtljipbmmgcccnaaGreat.T
open Go.RowKit Go.Proofs.YtljipbmmgcccnaaGreatW.PrintWords Go.Proofs.YtljipbmmgcccnaaGreatW.PrintLast Go.Proofs.YtljipbmmgcccnaaGreatW.PrintMore
attribute [local go_sem] cell_tc frozen_tc max2_int min2_int
attribute [local go_sem ↓] Go.wp_at_zero Go.wp_at_succ
set_option linter.unusedVariables false
set_option linter.unusedSimpArgs false
set_option synthInstance.maxHeartbeats 400000
set_option synthInstance.maxSize 512
attribute [local go_sem] cell_tc2
theorem first_ {A : Option Addr} {n c : Nat} {l : List Int} {w : World} [h : Sr kI w A n c l] (hp : 0 < l.length) :
    Calls Tryz.prog 89 #[.slice A n c] w fun e w' => e = .returned (.int .i64 l[0]) ∧ Drawn0 w w' := by
  obtain rfl := h.len
  obtain ⟨ad, rfl, hx⟩ := el_I (W := w) (A := A) (n := l.length) (c := c) (l := l) 0 hp
  have hx2 : CellL w (ad.add 0) (.int .i64 l[0]) := hx
  have hadd : ad.add 0 = ad := by simp [Addr.add]
  have hx3 : CellL w ad (.int .i64 l[0]) := by rw [hadd] at hx; exact hx
  clear hadd
  go_enter Tryz.func89, Tryz.ntmps89
  go_wp2
  go_ret
  exact ⟨rfl, by repeat (first | exact Drawn0.refl _ | apply Drawn0.step)⟩
theorem last_ {A : Option Addr} {n c : Nat} {l : List Int} {w : World} [h : Sr kI w A n c l] (hp : 0 < l.length) :
    Calls Tryz.prog 137 #[.slice A n c] w fun e w' => e = .returned (.int .i64 (l[l.length - 1]'(by omega))) ∧ Drawn0 w w' := by
  obtain rfl := h.len
  have hlen := h.C.2.1
  obtain ⟨ad, rfl, hx⟩ := el_I (W := w) (A := A) (n := l.length) (c := c) (l := l) (l.length - 1) (by omega)
  have e1 : (l.length : Int) - 1 = ((l.length - 1 : Nat) : Int) := by omega
  have hj : l.length - 1 < l.length := by omega
  go_enter Tryz.func137, Tryz.ntmps137
  go_wp2
  go_ret
  exact ⟨rfl, by repeat (first | exact Drawn0.refl _ | apply Drawn0.step)⟩
def succI (v : S25) : Int := if viewB v.f0 v.f1 v.f2 then (match v.f1 with | [] => v.f0 | p :: _ => p.f0) else 0
def predI (v : S25) : Int := if viewB v.f0 v.f1 v.f2 then (match v.f1.getLast? with | none => v.f0 | some p => p.f0) else 0
def endE (v : S25) : Int := if viewB v.f0 v.f1 v.f2 then 0 else 900
set_option maxHeartbeats 1000000 in
theorem succEnd_ {id : Int} {A B : Option Addr} {n c m d : Nat} {ps : List S98} {xs : List Int} {w : World} [h : Sr k98 w A n c ps] [g : Sr kI w B m d xs] :
    Calls Tryz.prog 88 #[.agg #[.int .i64 id, .slice A n c, .slice B m d], .func (.func 89) #[] #[]] w fun e w' => e = .returned (.tuple #[.int .i64 (succI ⟨id, ps, xs⟩), .int .i64 (endE ⟨id, ps, xs⟩)]) ∧ BelL w w' := by
  obtain rfl := h.len
  obtain rfl := g.len
  have s1 := sr_l h
  have s2 := sr_l g
  clear h g
  cases h1 : viewB id ps xs
  · rw [show succI ⟨id, ps, xs⟩ = 0 by simp [succI, h1], show endE ⟨id, ps, xs⟩ = 900 by simp [endE, h1]]
    go_enter Tryz.func88, Tryz.ntmps88
    go_wp2_with (first | (with_reducible refine gate_dst (N := 2) rfl ?_; refine box_tc rfl (N := 2) rfl (cs := #[.int .i64 id, .slice A ps.length c, .slice B xs.length d]) (t := 25) ?hr ?_; (case hr => first | (go_simp; done) | (go_simp; rfl)); intro g1 wg1 _ _ _) | (go_at_call 34; (with_reducible refine Calls.mono (viewMay_) ?_); rintro e wb ⟨rfl, hb⟩))
    go_ret2
    exact ⟨rfl, belL⟩
  · have h16 := viewB_len h1
    rw [show endE ⟨id, ps, xs⟩ = 0 by simp [endE, h1]]
    by_cases h2 : ps.length = 0
    · obtain rfl : ps = [] := List.eq_nil_of_length_eq_zero h2
      rw [show succI ⟨id, [], xs⟩ = id by simp [succI, h1]]
      clear h2
      go_enter Tryz.func88, Tryz.ntmps88
      go_wp2_with (first | (with_reducible refine gate_dst (N := 2) rfl ?_; refine box_tc rfl (N := 2) rfl (cs := #[.int .i64 id, .slice A 0 c, .slice B xs.length d]) (t := 25) ?hr ?_; (case hr => first | (go_simp; done) | (go_simp; rfl)); intro g1 wg1 _ _ _) | (go_at_call 34; (with_reducible refine Calls.mono (viewMay_ (n := 0) (ps := [])) ?_); rintro e wb ⟨rfl, hb⟩))
      go_ret2
      exact ⟨rfl, belL⟩
    · have h3 : ((ps.length : Int) == 0) = false := by simpa using h2
      have h4 : (ps.length == 0) = false := by simpa using h2
      have hq : 0 < (idsOf ps).length := by rw [idsOf_len]; omega
      have HR : Aside0 (succI ⟨id, ps, xs⟩ = (idsOf ps)[0]) := ⟨by 
        cases ps with
        | nil => simp at h3
        | cons p ps => simp only [succI, h1, if_true]; rfl⟩
      clear h2
      go_enter Tryz.func88, Tryz.ntmps88
      go_wp2_with (first | (with_reducible refine gate_dst (N := 2) rfl ?_; refine box_tc rfl (N := 2) rfl (cs := #[.int .i64 id, .slice A ps.length c, .slice B xs.length d]) (t := 25) ?hr ?_; (case hr => first | (go_simp; done) | (go_simp; rfl)); intro g1 wg1 _ _ _) | (go_at_call 34; (with_reducible refine Calls.mono (viewMay_) ?_); rintro e wb ⟨rfl, hb⟩) | (go_at_call 141; (with_reducible refine Calls.mono (ids_ (by omega)) ?_); rintro e w2 ⟨A2, c2, rfl, hF2, hb2⟩) | (go_at_call 89; (with_reducible refine Calls.mono (first_ (l := idsOf ps) hq) ?_); rintro e w' ⟨rfl, ⟨nd, rfl⟩⟩))
      go_ret2
      exact ⟨by rw [HR.out]; rfl, belL⟩
set_option maxHeartbeats 1000000 in
theorem predEnd_ {id : Int} {A B : Option Addr} {n c m d : Nat} {ps : List S98} {xs : List Int} {w : World} [h : Sr k98 w A n c ps] [g : Sr kI w B m d xs] :
    Calls Tryz.prog 88 #[.agg #[.int .i64 id, .slice A n c, .slice B m d], .func (.func 137) #[] #[]] w fun e w' => e = .returned (.tuple #[.int .i64 (predI ⟨id, ps, xs⟩), .int .i64 (endE ⟨id, ps, xs⟩)]) ∧ BelL w w' := by
  obtain rfl := h.len
  obtain rfl := g.len
  have s1 := sr_l h
  have s2 := sr_l g
  clear h g
  cases h1 : viewB id ps xs
  · rw [show predI ⟨id, ps, xs⟩ = 0 by simp [predI, h1], show endE ⟨id, ps, xs⟩ = 900 by simp [endE, h1]]
    go_enter Tryz.func88, Tryz.ntmps88
    go_wp2_with (first | (with_reducible refine gate_dst (N := 2) rfl ?_; refine box_tc rfl (N := 2) rfl (cs := #[.int .i64 id, .slice A ps.length c, .slice B xs.length d]) (t := 25) ?hr ?_; (case hr => first | (go_simp; done) | (go_simp; rfl)); intro g1 wg1 _ _ _) | (go_at_call 34; (with_reducible refine Calls.mono (viewMay_) ?_); rintro e wb ⟨rfl, hb⟩))
    go_ret2
    exact ⟨rfl, belL⟩
  · have h16 := viewB_len h1
    rw [show endE ⟨id, ps, xs⟩ = 0 by simp [endE, h1]]
    by_cases h2 : ps.length = 0
    · obtain rfl : ps = [] := List.eq_nil_of_length_eq_zero h2
      rw [show predI ⟨id, [], xs⟩ = id by simp [predI, h1]]
      clear h2
      go_enter Tryz.func88, Tryz.ntmps88
      go_wp2_with (first | (with_reducible refine gate_dst (N := 2) rfl ?_; refine box_tc rfl (N := 2) rfl (cs := #[.int .i64 id, .slice A 0 c, .slice B xs.length d]) (t := 25) ?hr ?_; (case hr => first | (go_simp; done) | (go_simp; rfl)); intro g1 wg1 _ _ _) | (go_at_call 34; (with_reducible refine Calls.mono (viewMay_ (n := 0) (ps := [])) ?_); rintro e wb ⟨rfl, hb⟩))
      go_ret2
      exact ⟨rfl, belL⟩
    · have h3 : ((ps.length : Int) == 0) = false := by simpa using h2
      have h4 : (ps.length == 0) = false := by simpa using h2
      have hq : 0 < (idsOf ps).length := by rw [idsOf_len]; omega
      have HR : Aside0 (predI ⟨id, ps, xs⟩ = (idsOf ps)[(idsOf ps).length - 1]) := ⟨by 
        simp only [predI, h1, if_true]
        have e1 : ps.getLast? = some (ps[ps.length - 1]'(by rw [idsOf_len] at hq; omega)) := by rw [List.getLast?_eq_getElem?]; exact List.getElem?_eq_getElem _
        rw [e1]
        simp only [idsOf, List.getElem_map, List.length_map]⟩
      clear h2
      go_enter Tryz.func88, Tryz.ntmps88
      go_wp2_with (first | (with_reducible refine gate_dst (N := 2) rfl ?_; refine box_tc rfl (N := 2) rfl (cs := #[.int .i64 id, .slice A ps.length c, .slice B xs.length d]) (t := 25) ?hr ?_; (case hr => first | (go_simp; done) | (go_simp; rfl)); intro g1 wg1 _ _ _) | (go_at_call 34; (with_reducible refine Calls.mono (viewMay_) ?_); rintro e wb ⟨rfl, hb⟩) | (go_at_call 141; (with_reducible refine Calls.mono (ids_ (by omega)) ?_); rintro e w2 ⟨A2, c2, rfl, hF2, hb2⟩) | (go_at_call 137; (with_reducible refine Calls.mono (last_ (l := idsOf ps) hq) ?_); rintro e w' ⟨rfl, ⟨nd, rfl⟩⟩))
      go_ret2
      exact ⟨by rw [HR.out]; rfl, belL⟩
theorem succ_ {id : Int} {A B : Option Addr} {n c m d : Nat} {ps : List S98} {xs : List Int} {w : World} [h : Sr k98 w A n c ps] [g : Sr kI w B m d xs] :
    Calls Tryz.prog 32 #[.agg #[.int .i64 id, .slice A n c, .slice B m d]] w fun e w' => e = .returned (.tuple #[.int .i64 (succI ⟨id, ps, xs⟩), .int .i64 (endE ⟨id, ps, xs⟩)]) ∧ BelL w w' := by
  obtain rfl := h.len
  obtain rfl := g.len
  have s1 := sr_l h
  have s2 := sr_l g
  clear h g
  go_enter Tryz.func32, Tryz.ntmps32
  go_wp2_with (first | (with_reducible refine gate_dst (N := 1) rfl ?_; refine box_tc rfl (N := 1) rfl (cs := #[.int .i64 id, .slice A ps.length c, .slice B xs.length d]) (t := 25) ?hr ?_; (case hr => first | (go_simp; done) | (go_simp; rfl)); intro g1 wg1 _ _ _) | (go_at_call 88; (with_reducible refine Calls.mono (succEnd_) ?_); rintro e wb ⟨rfl, hb⟩))
  go_ret2
  exact ⟨rfl, belL⟩
theorem pred_ {id : Int} {A B : Option Addr} {n c m d : Nat} {ps : List S98} {xs : List Int} {w : World} [h : Sr k98 w A n c ps] [g : Sr kI w B m d xs] :
    Calls Tryz.prog 79 #[.agg #[.int .i64 id, .slice A n c, .slice B m d]] w fun e w' => e = .returned (.tuple #[.int .i64 (predI ⟨id, ps, xs⟩), .int .i64 (endE ⟨id, ps, xs⟩)]) ∧ BelL w w' := by
  obtain rfl := h.len
  obtain rfl := g.len
  have s1 := sr_l h
  have s2 := sr_l g
  clear h g
  go_enter Tryz.func79, Tryz.ntmps79
  go_wp2_with (first | (with_reducible refine gate_dst (N := 1) rfl ?_; refine box_tc rfl (N := 1) rfl (cs := #[.int .i64 id, .slice A ps.length c, .slice B xs.length d]) (t := 25) ?hr ?_; (case hr => first | (go_simp; done) | (go_simp; rfl)); intro g1 wg1 _ _ _) | (go_at_call 88; (with_reducible refine Calls.mono (predEnd_) ?_); rintro e wb ⟨rfl, hb⟩))
  go_ret2
  exact ⟨rfl, belL⟩
end Go.Proofs.YtljipbmmgcccnaaGreat.T
end
section
namespace Go.Proofs.YtljipbmmgcccnaaGreat.T
open Go.RowKit Go.Proofs.YtljipbmmgcccnaaGreatW.PrintWords Go.Proofs.YtljipbmmgcccnaaGreatW.PrintLast Go.Proofs.YtljipbmmgcccnaaGreatW.PrintMore
attribute [local go_sem] cell_tc frozen_tc max2_int min2_int
attribute [local go_sem ↓] Go.wp_at_zero Go.wp_at_succ
set_option linter.unusedVariables false
set_option linter.unusedSimpArgs false
set_option synthInstance.maxHeartbeats 400000
set_option synthInstance.maxSize 512
attribute [local go_sem] cell_tc2
def rowMayB (one : Int) (l : List Int) : Bool := placeB one && decide (l.length ≤ 64) && placesB l
theorem rowMay_ {x : Int} {A : Option Addr} {n c : Nat} {l : List Int} {w : World} [h : Sr kI w A n c l] :
    Calls Tryz.prog 132 #[.int .i64 x, .slice A n c] w fun e w' => e = .returned (.bool (rowMayB x l)) ∧ BelL w w' := by
  obtain rfl := h.len
  have hs := sr_l h
  clear h
  cases h1 : placeB x
  · rw [show rowMayB x l = false by simp [rowMayB, h1]]
    go_enter Tryz.func132, Tryz.ntmps132
    go_wp2_with (first | (go_at_call 35; (with_reducible refine Calls.mono (place _ _) ?_); rintro e w' ⟨rfl, ⟨nd, rfl⟩⟩) | (go_at_call 36; (with_reducible refine Calls.mono (places_) ?_); rintro e w' ⟨rfl, ⟨nd, rfl⟩⟩))
    go_ret
    exact ⟨rfl, belL⟩
  · by_cases h2 : l.length ≤ 64
    · rw [show rowMayB x l = placesB l by simp [rowMayB, h1, h2]]
      have h3 : decide ((l.length : Int) ≤ 64) = true := decide_eq_true (by omega)
      clear h2
      go_enter Tryz.func132, Tryz.ntmps132
      go_wp2_with (first | (go_at_call 35; (with_reducible refine Calls.mono (place _ _) ?_); rintro e w' ⟨rfl, ⟨nd, rfl⟩⟩) | (go_at_call 36; (with_reducible refine Calls.mono (places_) ?_); rintro e w' ⟨rfl, ⟨nd, rfl⟩⟩))
      go_ret
      exact ⟨rfl, belL⟩
    · rw [show rowMayB x l = false by simp [rowMayB, h2]]
      have h3 : decide ((l.length : Int) ≤ 64) = false := decide_eq_false (by omega)
      clear h2
      go_enter Tryz.func132, Tryz.ntmps132
      go_wp2_with (first | (go_at_call 35; (with_reducible refine Calls.mono (place _ _) ?_); rintro e w' ⟨rfl, ⟨nd, rfl⟩⟩) | (go_at_call 36; (with_reducible refine Calls.mono (places_) ?_); rintro e w' ⟨rfl, ⟨nd, rfl⟩⟩))
      go_ret
      exact ⟨rfl, belL⟩
theorem by_ {x : Int} {w : World} : Calls Tryz.prog 135 #[.int .i64 x] w fun e w' => ∃ g, e = .returned (.func (.func 177) #[] #[.pointer (some ⟨g, 0, none⟩)]) ∧ BlkL w' g #[.int .i64 x] 3 ∧ GEL w g ∧ BelL w w' := by
  go_enter Tryz.func135, Tryz.ntmps135
  go_wp2_with (first | (with_reducible refine gate_dst (N := 1) rfl ?_; refine box_tc rfl (N := 1) rfl (cs := #[.int .i64 x]) (t := 3) ?hr ?_; (case hr => first | (go_simp; done) | (go_simp; rfl)); intro g1 wg1 _ _ _))
  go_ret
  exact ⟨g1, rfl, blkL, ⟨GE.out⟩, belL⟩
def byI (base a b : Int) : Int := cmpI (farI base a) (farI base b)
theorem by1_ {base a b : Int} {g t : Nat} {w : World} [h : Blk w g #[.int .i64 base] t] (h0 : placeB base = true) (h1 : placeB a = true) (h2 : placeB b = true) :
    Calls Tryz.prog 177 #[.int .i64 a, .int .i64 b, .pointer (some ⟨g, 0, none⟩)] w fun e w' => e = .returned (.int .i64 (byI base a b)) ∧ BelL w w' := by
  have HB := Aside0.mk (show byI base a b = cmpI (farI base a) (farI base b) from rfl)
  go_enter Tryz.func177, Tryz.ntmps177
  go_wp2
  (refine wp_region_bel (by kernel_rfl) (by kernel_rfl) ?_; (repeat (first | go_big_quiet_skip | (go_big_quiet_want; first | (go_big_quiet_op; go_big_quiet_on) | (apply Exists.intro; refine ⟨fun wq hq => ?_, ?_⟩; (focus (unfold Oper.quietAt; go_simp; first | done | exact ⟨rfl, rfl⟩ | exact rfl | (first | (go_at_call 100; refine Calls.mono (far _ _ (by assumption) (by assumption) _) ?_; rintro e w1 ⟨rfl, ⟨nd, rfl⟩⟩; exact ⟨rfl, belL⟩) | (go_at_call 107; refine Calls.mono (compare _ _ _) ?_; rintro e w1 ⟨rfl, ⟨nd, rfl⟩⟩; exact ⟨rfl, belL⟩)))); (try simp only [Act.put, List.setIfInBounds_toArray, List.set_cons_zero, List.set_cons_succ]); go_big_quiet_on)))); refine wpQuiet_nil ?_; intro w7 hb7)
  go_wp2
  go_ret
  exact ⟨by rw [HB.out]; rfl, belL⟩
def minStep (base m x : Int) : Int := if farI base x < farI base m then x else m
def minI (base : Int) (l : List Int) : Int := l.tail.foldl (minStep base) (l.headD 0)
theorem minI_snoc {base : Int} {l : List Int} {i : Nat} (h1 : 1 ≤ i) (h : i < l.length) : minI base (l.take (i + 1)) = minStep base (minI base (l.take i)) l[i] := by
  cases l with
  | nil => simp at h
  | cons y ys =>
    obtain ⟨j, rfl⟩ : ∃ j, i = j + 1 := ⟨i - 1, by omega⟩
    unfold minI
    simp only [List.take_succ_cons, List.tail_cons, List.headD_cons, List.getElem_cons_succ]
    rw [List.take_succ_eq_append_getElem (by simpa using h), List.foldl_append]; rfl
theorem minI_mem {base : Int} {l : List Int} (h : 0 < l.length) : minI base l ∈ l := by
  cases l with
  | nil => simp at h
  | cons y ys =>
    unfold minI
    simp only [List.tail_cons, List.headD_cons]
    clear h
    induction ys generalizing y with
    | nil => simp
    | cons z zs ih =>
      rw [List.foldl_cons]
      have := ih (minStep base y z)
      unfold minStep at this ⊢
      split
      · rename_i hlt; rw [if_pos hlt] at this; simp only [List.mem_cons] at this ⊢; (rcases this with h | h <;> simp [h])
      · rename_i hlt; rw [if_neg hlt] at this; simp only [List.mem_cons] at this ⊢; (rcases this with h | h <;> simp [h])
theorem placesB_mem {l : List Int} (h : placesB l = true) {x : Int} (hx : x ∈ l) : placeB x = true := by
  unfold placesB at h; rw [List.all_eq_true] at h; exact h x hx
set_option maxHeartbeats 2000000 in
theorem minFunc_ {base : Int} {g t : Nat} {A : Option Addr} {n c : Nat} {l : List Int} {w : World} [hg : Blk w g #[.int .i64 base] t] [h : Sr kI w A n c l] (h0 : placeB base = true) (h1 : placesB l = true) (hp : 0 < l.length) (hn : n ≤ 100000) :
    Calls Tryz.prog 213 #[.slice A n c, .func (.func 177) #[] #[.pointer (some ⟨g, 0, none⟩)]] w fun e w' => e = .returned (.int .i64 (minI base l)) ∧ BelL w w' := by
  obtain rfl := h.len
  have hs := sr_l h
  have hk : BlkL w g #[.int .i64 base] t := ⟨hg.out⟩
  clear h hg
  obtain ⟨ad, rfl, hx⟩ := el_I (W := w) (A := A) (n := l.length) (c := c) (l := l) 0 hp
  have hadd : ad.add 0 = ad := by simp [Addr.add]
  have hx3 : CellL w ad (.int .i64 l[0]) := by rw [hadd] at hx; exact hx
  have hlt1 : decide ((l.length : Int) < 1) = false := decide_eq_false (by omega)
  have hlt2 : decide (l.length < 1) = false := decide_eq_false (by omega)
  have hz : minI base (l.take 1) = l[0] := by cases l with | nil => simp at hp | cons y ys => rfl
  have HZ := Aside0.mk hz
  clear hadd hx hz
  go_enter Tryz.func213, Tryz.ntmps213
  go_wp2
  go_loopg [5, 6] (l.length - 1) (fun kq v5 v6 w' => ∃ (i : Nat), v6 = .int .i64 i ∧ v5 = .int .i64 (minI base (l.take i)) ∧ 1 ≤ i ∧ i ≤ l.length ∧ kq = l.length - i ∧ BelL w w')
  case atStart => exact ⟨1, rfl, by rw [HZ.out], Nat.le_refl 1, hp, rfl, belL⟩
  case round =>
    obtain ⟨i, rfl, rfl, hi1, hi, rfl, hbr⟩ := hrel
    by_cases hlt : i < l.length
    · obtain ⟨ad', he, hx⟩ := el_I (W := wr) (A := some ad) (n := l.length) (c := c) (l := l) i hlt
      obtain rfl := Option.some.inj he
      have hpx : placeB l[i] = true := placesB_at h1 i hlt
      have hpm : placeB (minI base (l.take i)) = true := placesB_mem h1 (List.mem_of_mem_take (minI_mem (by rw [List.length_take]; omega)))
      have HS := Aside0.mk (minI_snoc (base := base) hi1 hlt)
      generalize hm : minI base (l.take i) = mm at hpm HS
      have HM := Aside0.mk hm
      clear hm
      by_cases hlt2 : farI base l[i] < farI base mm
      · have hb2 : decide (byI base l[i] mm < 0) = true := decide_eq_true (by unfold byI; rw [cmpI_neg]; exact hlt2)
        have HT : Aside0 (minI base (l.take (i + 1)) = l[i]) := ⟨by rw [HS.out]; unfold minStep; rw [if_pos hlt2]⟩
        clear hlt2
        go_wp2_with (first | (go_at_call 177; (with_reducible refine Calls.mono (by1_ h0 hpx hpm) ?_); rintro e wb ⟨rfl, hb⟩))
        go_roundg (l.length - (i + 1))
        case measure => omega
        case rel => exact ⟨i + 1, by go_num, by rw [HT.out], by omega, by omega, rfl, belL⟩
      · have hb2 : decide (byI base l[i] mm < 0) = false := decide_eq_false (by unfold byI; rw [cmpI_neg]; exact hlt2)
        have HT : Aside0 (minI base (l.take (i + 1)) = mm) := ⟨by rw [HS.out]; unfold minStep; rw [if_neg hlt2]⟩
        clear hlt2
        go_wp2_with (first | (go_at_call 177; (with_reducible refine Calls.mono (by1_ h0 hpx hpm) ?_); rintro e wb ⟨rfl, hb⟩))
        go_roundg (l.length - (i + 1))
        case measure => omega
        case rel => exact ⟨i + 1, by go_num, by rw [HT.out], by omega, by omega, rfl, belL⟩
    · obtain rfl : i = l.length := by omega
      have HT : Aside0 (minI base (l.take l.length) = minI base l) := ⟨by rw [List.take_length]⟩
      go_wp2
      go_ret
      exact ⟨by rw [← HT.out]; rfl, belL⟩
def ownB (l : List Int) (key : Int) : Bool := rowMayB key l && !(l.length == 0)
def ownI (l : List Int) (key : Int) : Int := if ownB l key then minI key l else 0
def ownE (l : List Int) (key : Int) : Int := if ownB l key then 0 else 200
set_option maxHeartbeats 1000000 in
theorem rowOwner_ {key : Int} {A : Option Addr} {n c : Nat} {l : List Int} {w : World} [h : Sr kI w A n c l] :
    Calls Tryz.prog 199 #[.slice A n c, .int .i64 key] w fun e w' => e = .returned (.tuple #[.int .i64 (ownI l key), .int .i64 (ownE l key)]) ∧ BelL w w' := by
  obtain rfl := h.len
  have hs := sr_l h
  clear h
  cases h1 : rowMayB key l
  · rw [show ownI l key = 0 by simp [ownI, ownB, h1], show ownE l key = 200 by simp [ownE, ownB, h1]]
    go_enter Tryz.func199, Tryz.ntmps199
    go_wp2_with (first | (go_at_call 132; (with_reducible refine Calls.mono (rowMay_) ?_); rintro e wb ⟨rfl, hb⟩) | (go_at_call 135; (with_reducible refine Calls.mono by_ ?_); rintro e w2 ⟨g2, rfl, hk2, hg2, hb2⟩) | (go_at_call 213; (with_reducible refine Calls.mono (minFunc_ hm1 hm3 hp (by omega)) ?_); rintro e wb ⟨rfl, hb⟩))
    go_ret2
    exact ⟨rfl, belL⟩
  · cases h2 : (l.length == 0)
    · have hb : ownB l key = true := by simp [ownB, h1, h2]
      rw [show ownI l key = minI key l by simp [ownI, hb], show ownE l key = 0 by simp [ownE, hb]]
      have h3 : ((l.length : Int) == 0) = false := by simpa using h2
      have hp : 0 < l.length := by have : ¬ l.length = 0 := by simpa using h2
                                   omega
      have hm := h1
      unfold rowMayB at hm
      simp only [Bool.and_eq_true, decide_eq_true_eq] at hm
      obtain ⟨⟨hm1, hm2⟩, hm3⟩ := hm
      go_enter Tryz.func199, Tryz.ntmps199
      go_wp2_with (first | (go_at_call 132; (with_reducible refine Calls.mono (rowMay_) ?_); rintro e wb ⟨rfl, hb⟩) | (go_at_call 135; (with_reducible refine Calls.mono by_ ?_); rintro e w2 ⟨g2, rfl, hk2, hg2, hb2⟩) | (go_at_call 213; (with_reducible refine Calls.mono (minFunc_ hm1 hm3 hp (by omega)) ?_); rintro e wb ⟨rfl, hb⟩))
      go_ret2
      exact ⟨rfl, belL⟩
    · rw [show ownI l key = 0 by simp [ownI, ownB, h2], show ownE l key = 200 by simp [ownE, ownB, h2]]
      have h3 : ((l.length : Int) == 0) = true := by simpa using h2
      go_enter Tryz.func199, Tryz.ntmps199
      go_wp2_with (first | (go_at_call 132; (with_reducible refine Calls.mono (rowMay_) ?_); rintro e wb ⟨rfl, hb⟩) | (go_at_call 135; (with_reducible refine Calls.mono by_ ?_); rintro e w2 ⟨g2, rfl, hk2, hg2, hb2⟩) | (go_at_call 213; (with_reducible refine Calls.mono (minFunc_ hm1 hm3 hp (by omega)) ?_); rintro e wb ⟨rfl, hb⟩))
      go_ret2
      exact ⟨rfl, belL⟩
def vownB (v : S25) (key : Int) : Bool := viewB v.f0 v.f1 v.f2 && placeB key
def vownI (v : S25) (key : Int) : Int := if vownB v key then ownI (idsOf v.f1 ++ [v.f0]) key else 0
def vownE (v : S25) (key : Int) : Int := if vownB v key then 0 else 900
set_option maxRecDepth 100000 in
set_option maxHeartbeats 1000000 in
theorem viewOwner_ {id key : Int} {A B : Option Addr} {n c m d : Nat} {ps : List S98} {xs : List Int} {w : World} [h : Sr k98 w A n c ps] [g : Sr kI w B m d xs] :
    Calls Tryz.prog 172 #[.agg #[.int .i64 id, .slice A n c, .slice B m d], .int .i64 key] w fun e w' => e = .returned (.tuple #[.int .i64 (vownI ⟨id, ps, xs⟩ key), .int .i64 (vownE ⟨id, ps, xs⟩ key)]) ∧ BelL w w' := by
  obtain rfl := h.len
  obtain rfl := g.len
  have s1 := sr_l h
  have s2 := sr_l g
  clear h g
  cases h1 : viewB id ps xs
  · rw [show vownI ⟨id, ps, xs⟩ key = 0 by simp [vownI, vownB, h1], show vownE ⟨id, ps, xs⟩ key = 900 by simp [vownE, vownB, h1]]
    go_enter Tryz.func172, Tryz.ntmps172
    go_wp2_with (first | (with_reducible refine gate_dst (N := 2) rfl ?_; refine box_tc rfl (N := 2) rfl (cs := #[.int .i64 id, .slice A ps.length c, .slice B xs.length d]) (t := 25) ?hr ?_; (case hr => first | (go_simp; done) | (go_simp; rfl)); intro g1 wg1 _ _ _) | (go_at_call 34; (with_reducible refine Calls.mono (viewMay_) ?_); rintro e wb ⟨rfl, hb⟩) | (go_at_call 35; (with_reducible refine Calls.mono (place _ _) ?_); rintro e w' ⟨rfl, ⟨nd, rfl⟩⟩))
    go_ret2
    exact ⟨rfl, belL⟩
  · have h16 := viewB_len h1
    cases h2 : placeB key
    · rw [show vownI ⟨id, ps, xs⟩ key = 0 by simp [vownI, vownB, h2], show vownE ⟨id, ps, xs⟩ key = 900 by simp [vownE, vownB, h2]]
      go_enter Tryz.func172, Tryz.ntmps172
      go_wp2_with (first | (with_reducible refine gate_dst (N := 2) rfl ?_; refine box_tc rfl (N := 2) rfl (cs := #[.int .i64 id, .slice A ps.length c, .slice B xs.length d]) (t := 25) ?hr ?_; (case hr => first | (go_simp; done) | (go_simp; rfl)); intro g1 wg1 _ _ _) | (go_at_call 34; (with_reducible refine Calls.mono (viewMay_) ?_); rintro e wb ⟨rfl, hb⟩) | (go_at_call 35; (with_reducible refine Calls.mono (place _ _) ?_); rintro e w' ⟨rfl, ⟨nd, rfl⟩⟩))
      go_ret2
      exact ⟨rfl, belL⟩
    · rw [show vownE ⟨id, ps, xs⟩ key = 0 by simp [vownE, vownB, h1, h2]]
      have HR : Aside0 (vownI ⟨id, ps, xs⟩ key = ownI (idsOf ps ++ [id]) key) := ⟨by simp [vownI, vownB, h1, h2]⟩
      go_enter Tryz.func172, Tryz.ntmps172
      go_wp2_with (first | (with_reducible refine gate_dst (N := 2) rfl ?_; refine box_tc rfl (N := 2) rfl (cs := #[.int .i64 id, .slice A ps.length c, .slice B xs.length d]) (t := 25) ?hr ?_; (case hr => first | (go_simp; done) | (go_simp; rfl)); intro g1 wg1 _ _ _) | (go_at_call 34; (with_reducible refine Calls.mono (viewMay_) ?_); rintro e wb ⟨rfl, hb⟩) | (go_at_call 35; (with_reducible refine Calls.mono (place _ _) ?_); rintro e w' ⟨rfl, ⟨nd, rfl⟩⟩))
      refine wp_letter fun w6 hb6 => ?_
      go_region_held3 (fun w' => BelL w6 w') (first | exact belL) (first | (go_at_call 141; (with_reducible refine Calls.mono (ids_ (by omega)) ?_); rintro e w2 ⟨A2, c2, rfl, hF2, hb2⟩) | (go_at_call 199; (with_reducible refine Calls.mono (rowOwner_) ?_); rintro e wb ⟨rfl, hb⟩) | (refine app_step_tc (k := kI) (t := 23) (A := A2) (n := ps.length) (c := c2) (B := _) (m := 1) (d := 1) (by rfl) (by rfl) Tryz.underlying23 (by rfl) (by rfl) (by omega) ?_; intro A4 c4 w4 hFa4 hba4 hgr4))
      all_goals
        go_wp2
        go_ret2
        exact ⟨by rw [HR.out]; rfl, belL⟩
end Go.Proofs.YtljipbmmgcccnaaGreat.T
end
section
namespace Go.Proofs.YtljipbmmgcccnaaGreat.T
open Go.RowKit Go.Proofs.YtljipbmmgcccnaaGreatW.PrintWords Go.Proofs.YtljipbmmgcccnaaGreatW.PrintLast Go.Proofs.YtljipbmmgcccnaaGreatW.PrintMore
attribute [local go_sem] cell_tc frozen_tc max2_int min2_int
attribute [local go_sem ↓] Go.wp_at_zero Go.wp_at_succ
set_option linter.unusedVariables false
set_option linter.unusedSimpArgs false
set_option synthInstance.maxHeartbeats 400000
set_option synthInstance.maxSize 512
attribute [local go_sem] cell_tc2
attribute [local go_sem high] eqA46 eqA98 eqA77 eqA48
def itemZ (i : S48) : Bool := (i.f0 == 0) && (i.f1.f0 == 0) && (i.f1.f1 == 0) && (i.f2 == 0) && !i.f3
def noneB (n : Nat) (key : Int) (i : S48) (has : Bool) : Bool := (n == 0) && (key == 0) && itemZ i && !has
set_option maxHeartbeats 2000000 in
theorem none_ {mk mf mt my ik ic ix iv : Int} {ig mh : Bool} {A : Option Addr} {n c : Nat} {w : World} :
    Calls Tryz.prog 180 #[.agg #[.int .i64 mk, .int .i64 mf, .int .i64 mt, .slice A n c, .int .i64 my, .int .i64 ik, .int .i64 ic, .int .i64 ix, .int .i64 iv, .bool ig, .bool mh]] w fun e w' => e = .returned (.bool (noneB n my ⟨ik, ⟨ic, ix⟩, iv, ig⟩ mh)) ∧ BelL w w' := by
  have HN : ∀ b, noneB n my ⟨ik, ⟨ic, ix⟩, iv, ig⟩ mh = b ↔ Aside0 (noneB n my ⟨ik, ⟨ic, ix⟩, iv, ig⟩ mh = b) := fun b => ⟨fun h => ⟨h⟩, fun h => h.out⟩
  by_cases h1 : n = 0
  · subst h1
    by_cases h2 : my = 0
    · subst h2
      by_cases h3 : ik = 0
      · subst h3
        by_cases h4 : ic = 0
        · subst h4
          by_cases h5 : ix = 0
          · subst h5
            by_cases h6 : iv = 0
            · subst h6
              cases ig
              · rw [show noneB 0 0 ⟨0, ⟨0, 0⟩, 0, false⟩ mh = !mh by simp [noneB, itemZ]]
                go_enter Tryz.func180, Tryz.ntmps180
                go_wp2_with (first | (with_reducible refine gate_dst (N := 1) rfl ?_; refine box_tc rfl (N := 1) rfl (cs := #[.int .i64 mk, .int .i64 mf, .int .i64 mt, .slice A 0 c, .int .i64 0, .int .i64 0, .int .i64 0, .int .i64 0, .int .i64 0, .bool false, .bool mh]) (t := 126) ?hr ?_; (case hr => first | (go_simp; done) | (go_simp; rfl)); intro g1 wg1 _ _ _))
                go_ret
                exact ⟨rfl, belL⟩
              · rw [show noneB 0 0 ⟨0, ⟨0, 0⟩, 0, true⟩ mh = false by simp [noneB, itemZ]]
                go_enter Tryz.func180, Tryz.ntmps180
                go_wp2_with (first | (with_reducible refine gate_dst (N := 1) rfl ?_; refine box_tc rfl (N := 1) rfl (cs := #[.int .i64 mk, .int .i64 mf, .int .i64 mt, .slice A 0 c, .int .i64 0, .int .i64 0, .int .i64 0, .int .i64 0, .int .i64 0, .bool true, .bool mh]) (t := 126) ?hr ?_; (case hr => first | (go_simp; done) | (go_simp; rfl)); intro g1 wg1 _ _ _))
                go_ret
                exact ⟨rfl, belL⟩
            · rw [show noneB 0 0 ⟨0, ⟨0, 0⟩, iv, ig⟩ mh = false by simp [noneB, itemZ, h6]]
              have hq : (iv == 0) = false := by simpa using h6
              clear h6
              go_enter Tryz.func180, Tryz.ntmps180
              go_wp2_with (first | (with_reducible refine gate_dst (N := 1) rfl ?_; refine box_tc rfl (N := 1) rfl (cs := #[.int .i64 mk, .int .i64 mf, .int .i64 mt, .slice A 0 c, .int .i64 0, .int .i64 0, .int .i64 0, .int .i64 0, .int .i64 iv, .bool ig, .bool mh]) (t := 126) ?hr ?_; (case hr => first | (go_simp; done) | (go_simp; rfl)); intro g1 wg1 _ _ _))
              go_ret
              exact ⟨rfl, belL⟩
          · rw [show noneB 0 0 ⟨0, ⟨0, ix⟩, iv, ig⟩ mh = false by simp [noneB, itemZ, h5]]
            have hq : (ix == 0) = false := by simpa using h5
            clear h5
            go_enter Tryz.func180, Tryz.ntmps180
            go_wp2_with (first | (with_reducible refine gate_dst (N := 1) rfl ?_; refine box_tc rfl (N := 1) rfl (cs := #[.int .i64 mk, .int .i64 mf, .int .i64 mt, .slice A 0 c, .int .i64 0, .int .i64 0, .int .i64 0, .int .i64 ix, .int .i64 iv, .bool ig, .bool mh]) (t := 126) ?hr ?_; (case hr => first | (go_simp; done) | (go_simp; rfl)); intro g1 wg1 _ _ _))
            go_ret
            exact ⟨rfl, belL⟩
        · rw [show noneB 0 0 ⟨0, ⟨ic, ix⟩, iv, ig⟩ mh = false by simp [noneB, itemZ, h4]]
          have hq : (ic == 0) = false := by simpa using h4
          clear h4
          go_enter Tryz.func180, Tryz.ntmps180
          go_wp2_with (first | (with_reducible refine gate_dst (N := 1) rfl ?_; refine box_tc rfl (N := 1) rfl (cs := #[.int .i64 mk, .int .i64 mf, .int .i64 mt, .slice A 0 c, .int .i64 0, .int .i64 0, .int .i64 ic, .int .i64 ix, .int .i64 iv, .bool ig, .bool mh]) (t := 126) ?hr ?_; (case hr => first | (go_simp; done) | (go_simp; rfl)); intro g1 wg1 _ _ _))
          go_ret
          exact ⟨rfl, belL⟩
      · rw [show noneB 0 0 ⟨ik, ⟨ic, ix⟩, iv, ig⟩ mh = false by simp [noneB, itemZ, h3]]
        have hq : (ik == 0) = false := by simpa using h3
        clear h3
        go_enter Tryz.func180, Tryz.ntmps180
        go_wp2_with (first | (with_reducible refine gate_dst (N := 1) rfl ?_; refine box_tc rfl (N := 1) rfl (cs := #[.int .i64 mk, .int .i64 mf, .int .i64 mt, .slice A 0 c, .int .i64 0, .int .i64 ik, .int .i64 ic, .int .i64 ix, .int .i64 iv, .bool ig, .bool mh]) (t := 126) ?hr ?_; (case hr => first | (go_simp; done) | (go_simp; rfl)); intro g1 wg1 _ _ _))
        go_ret
        exact ⟨rfl, belL⟩
    · rw [show noneB 0 my ⟨ik, ⟨ic, ix⟩, iv, ig⟩ mh = false by simp [noneB, h2]]
      have h4 : (my == 0) = false := by simpa using h2
      clear h2
      go_enter Tryz.func180, Tryz.ntmps180
      go_wp2_with (first | (with_reducible refine gate_dst (N := 1) rfl ?_; refine box_tc rfl (N := 1) rfl (cs := #[.int .i64 mk, .int .i64 mf, .int .i64 mt, .slice A 0 c, .int .i64 my, .int .i64 ik, .int .i64 ic, .int .i64 ix, .int .i64 iv, .bool ig, .bool mh]) (t := 126) ?hr ?_; (case hr => first | (go_simp; done) | (go_simp; rfl)); intro g1 wg1 _ _ _))
      go_ret
      exact ⟨rfl, belL⟩
  · rw [show noneB n my ⟨ik, ⟨ic, ix⟩, iv, ig⟩ mh = false by simp [noneB, h1]]
    have h4 : ((n : Int) == 0) = false := by simpa using h1
    have h5 : (n == 0) = false := by simpa using h1
    clear h1
    go_enter Tryz.func180, Tryz.ntmps180
    go_wp2_with (first | (with_reducible refine gate_dst (N := 1) rfl ?_; refine box_tc rfl (N := 1) rfl (cs := #[.int .i64 mk, .int .i64 mf, .int .i64 mt, .slice A n c, .int .i64 my, .int .i64 ik, .int .i64 ic, .int .i64 ix, .int .i64 iv, .bool ig, .bool mh]) (t := 126) ?hr ?_; (case hr => first | (go_simp; done) | (go_simp; rfl)); intro g1 wg1 _ _ _))
    go_ret
    exact ⟨rfl, belL⟩
end Go.Proofs.YtljipbmmgcccnaaGreat.T
end
section
namespace Go.Proofs.YtljipbmmgcccnaaGreat.T
open Go.RowKit Go.Proofs.YtljipbmmgcccnaaGreatW.PrintWords Go.Proofs.YtljipbmmgcccnaaGreatW.PrintLast Go.Proofs.YtljipbmmgcccnaaGreatW.PrintMore
attribute [local go_sem] cell_tc frozen_tc max2_int min2_int
attribute [local go_sem ↓] Go.wp_at_zero Go.wp_at_succ
set_option linter.unusedVariables false
set_option linter.unusedSimpArgs false
set_option synthInstance.maxHeartbeats 400000
set_option synthInstance.maxSize 512
attribute [local go_sem] cell_tc2
attribute [local go_sem high] eqA46 eqA98 eqA77 eqA48
def kindB (m : S126) : Bool :=
  if m.f0 = 0 then noneB 0 m.f4 m.f5 m.f6 && decide (m.f3.length ≤ 16) && placesB m.f3
  else if m.f0 = 1 then noneB m.f3.length m.f4 z48 m.f6 && itemOk m.f5
  else if m.f0 = 2 then noneB m.f3.length 0 m.f5 m.f6 && placeB m.f4
  else if m.f0 = 3 then noneB m.f3.length 0 (if m.f6 then z48 else m.f5) false && placeB m.f4 && (!m.f6 || (itemOk m.f5 && (m.f5.f0 == m.f4)))
  else false
def msgB (m : S126) : Bool := placeB m.f1 && placeB m.f2 && !(m.f1 == m.f2) && kindB m
set_option maxHeartbeats 2000000 in
theorem msgMay_a {mk : Int} {mf : Int} {mt : Int} {my : Int} {ik : Int} {ic : Int} {ix : Int} {iv : Int} {ig : Bool} {mh : Bool} {A : Option Addr} {c : Nat} {ids : List Int} {w : World} [h : Sr kI w A ids.length c ids] (p1 : placeB mf = false) :
    Calls Tryz.prog 144 #[.agg #[.int .i64 mk, .int .i64 mf, .int .i64 mt, .slice A ids.length c, .int .i64 my, .int .i64 ik, .int .i64 ic, .int .i64 ix, .int .i64 iv, .bool ig, .bool mh]] w fun e w' => e = .returned (.bool (msgB ⟨mk, mf, mt, ids, my, ⟨ik, ⟨ic, ix⟩, iv, ig⟩, mh⟩)) ∧ BelL w w' := by
  have hs := sr_l h
  clear h
  rw [show msgB ⟨mk, mf, mt, ids, my, ⟨ik, ⟨ic, ix⟩, iv, ig⟩, mh⟩ = false by simp [msgB, p1]]
  go_enter Tryz.func144, Tryz.ntmps144
  go_wp2_with (first | (with_reducible refine gate_dst (N := 1) rfl ?_; refine box_tc rfl (N := 1) rfl (cs := #[.int .i64 mk, .int .i64 mf, .int .i64 mt, .slice A ids.length c, .int .i64 my, .int .i64 ik, .int .i64 ic, .int .i64 ix, .int .i64 iv, .bool ig, .bool mh]) (t := 126) ?hr ?_; (case hr => first | (go_simp; done) | (go_simp; rfl)); intro g1 wg1 _ _ _) | (go_at_call 35; (with_reducible refine Calls.mono (place _ _) ?_); rintro e w' ⟨rfl, ⟨nd, rfl⟩⟩) | (with_reducible refine gate_dst (N := 3) rfl ?_; refine box_tc rfl (N := 3) rfl (cs := #[.int .i64 0, .int .i64 0, .int .i64 0, .slice none 0 0, .int .i64 0, .int .i64 0, .int .i64 0, .int .i64 0, .int .i64 0, .bool false, .bool false]) (t := 126) ?hr ?_; (case hr => first | (go_simp; done) | (go_simp; rfl)); intro g3 wg3 _ _ _) | (go_at_call 180; (with_reducible refine Calls.mono (none_) ?_); rintro e wb ⟨rfl, hb⟩) | (go_at_call 36; (with_reducible refine Calls.mono (places_) ?_); rintro e w' ⟨rfl, ⟨nd, rfl⟩⟩) | (go_at_call 57; (with_reducible refine Calls.mono (itemMay_) ?_); rintro e wb ⟨rfl, hb⟩))
  go_ret
  exact ⟨rfl, belL⟩
set_option maxHeartbeats 2000000 in
theorem msgMay_b {mk : Int} {mf : Int} {mt : Int} {my : Int} {ik : Int} {ic : Int} {ix : Int} {iv : Int} {ig : Bool} {mh : Bool} {A : Option Addr} {c : Nat} {ids : List Int} {w : World} [h : Sr kI w A ids.length c ids] (p1 : placeB mf = true) (p2 : placeB mt = false) :
    Calls Tryz.prog 144 #[.agg #[.int .i64 mk, .int .i64 mf, .int .i64 mt, .slice A ids.length c, .int .i64 my, .int .i64 ik, .int .i64 ic, .int .i64 ix, .int .i64 iv, .bool ig, .bool mh]] w fun e w' => e = .returned (.bool (msgB ⟨mk, mf, mt, ids, my, ⟨ik, ⟨ic, ix⟩, iv, ig⟩, mh⟩)) ∧ BelL w w' := by
  have hs := sr_l h
  clear h
  rw [show msgB ⟨mk, mf, mt, ids, my, ⟨ik, ⟨ic, ix⟩, iv, ig⟩, mh⟩ = false by simp [msgB, p2]]
  go_enter Tryz.func144, Tryz.ntmps144
  go_wp2_with (first | (with_reducible refine gate_dst (N := 1) rfl ?_; refine box_tc rfl (N := 1) rfl (cs := #[.int .i64 mk, .int .i64 mf, .int .i64 mt, .slice A ids.length c, .int .i64 my, .int .i64 ik, .int .i64 ic, .int .i64 ix, .int .i64 iv, .bool ig, .bool mh]) (t := 126) ?hr ?_; (case hr => first | (go_simp; done) | (go_simp; rfl)); intro g1 wg1 _ _ _) | (go_at_call 35; (with_reducible refine Calls.mono (place _ _) ?_); rintro e w' ⟨rfl, ⟨nd, rfl⟩⟩) | (with_reducible refine gate_dst (N := 3) rfl ?_; refine box_tc rfl (N := 3) rfl (cs := #[.int .i64 0, .int .i64 0, .int .i64 0, .slice none 0 0, .int .i64 0, .int .i64 0, .int .i64 0, .int .i64 0, .int .i64 0, .bool false, .bool false]) (t := 126) ?hr ?_; (case hr => first | (go_simp; done) | (go_simp; rfl)); intro g3 wg3 _ _ _) | (go_at_call 180; (with_reducible refine Calls.mono (none_) ?_); rintro e wb ⟨rfl, hb⟩) | (go_at_call 36; (with_reducible refine Calls.mono (places_) ?_); rintro e w' ⟨rfl, ⟨nd, rfl⟩⟩) | (go_at_call 57; (with_reducible refine Calls.mono (itemMay_) ?_); rintro e wb ⟨rfl, hb⟩))
  go_ret
  exact ⟨rfl, belL⟩
set_option maxHeartbeats 2000000 in
theorem msgMay_c {mk : Int} {mf : Int} {mt : Int} {my : Int} {ik : Int} {ic : Int} {ix : Int} {iv : Int} {ig : Bool} {mh : Bool} {A : Option Addr} {c : Nat} {ids : List Int} {w : World} [h : Sr kI w A ids.length c ids] (p1 : placeB mf = true) (p2 : placeB mt = true) (p3 : (mf == mt) = true) :
    Calls Tryz.prog 144 #[.agg #[.int .i64 mk, .int .i64 mf, .int .i64 mt, .slice A ids.length c, .int .i64 my, .int .i64 ik, .int .i64 ic, .int .i64 ix, .int .i64 iv, .bool ig, .bool mh]] w fun e w' => e = .returned (.bool (msgB ⟨mk, mf, mt, ids, my, ⟨ik, ⟨ic, ix⟩, iv, ig⟩, mh⟩)) ∧ BelL w w' := by
  have hs := sr_l h
  clear h
  rw [show msgB ⟨mk, mf, mt, ids, my, ⟨ik, ⟨ic, ix⟩, iv, ig⟩, mh⟩ = false by simp [msgB, p3]]
  go_enter Tryz.func144, Tryz.ntmps144
  go_wp2_with (first | (with_reducible refine gate_dst (N := 1) rfl ?_; refine box_tc rfl (N := 1) rfl (cs := #[.int .i64 mk, .int .i64 mf, .int .i64 mt, .slice A ids.length c, .int .i64 my, .int .i64 ik, .int .i64 ic, .int .i64 ix, .int .i64 iv, .bool ig, .bool mh]) (t := 126) ?hr ?_; (case hr => first | (go_simp; done) | (go_simp; rfl)); intro g1 wg1 _ _ _) | (go_at_call 35; (with_reducible refine Calls.mono (place _ _) ?_); rintro e w' ⟨rfl, ⟨nd, rfl⟩⟩) | (with_reducible refine gate_dst (N := 3) rfl ?_; refine box_tc rfl (N := 3) rfl (cs := #[.int .i64 0, .int .i64 0, .int .i64 0, .slice none 0 0, .int .i64 0, .int .i64 0, .int .i64 0, .int .i64 0, .int .i64 0, .bool false, .bool false]) (t := 126) ?hr ?_; (case hr => first | (go_simp; done) | (go_simp; rfl)); intro g3 wg3 _ _ _) | (go_at_call 180; (with_reducible refine Calls.mono (none_) ?_); rintro e wb ⟨rfl, hb⟩) | (go_at_call 36; (with_reducible refine Calls.mono (places_) ?_); rintro e w' ⟨rfl, ⟨nd, rfl⟩⟩) | (go_at_call 57; (with_reducible refine Calls.mono (itemMay_) ?_); rintro e wb ⟨rfl, hb⟩))
  go_ret
  exact ⟨rfl, belL⟩
set_option maxHeartbeats 2000000 in
theorem msgMay_k0a {mf : Int} {mt : Int} {my : Int} {ik : Int} {ic : Int} {ix : Int} {iv : Int} {ig : Bool} {mh : Bool} {A : Option Addr} {c : Nat} {ids : List Int} {w : World} [h : Sr kI w A ids.length c ids] (p1 : placeB mf = true) (p2 : placeB mt = true) (p3 : (mf == mt) = false) (q : noneB 0 my ⟨ik, ⟨ic, ix⟩, iv, ig⟩ mh = false) :
    Calls Tryz.prog 144 #[.agg #[.int .i64 0, .int .i64 mf, .int .i64 mt, .slice A ids.length c, .int .i64 my, .int .i64 ik, .int .i64 ic, .int .i64 ix, .int .i64 iv, .bool ig, .bool mh]] w fun e w' => e = .returned (.bool (msgB ⟨0, mf, mt, ids, my, ⟨ik, ⟨ic, ix⟩, iv, ig⟩, mh⟩)) ∧ BelL w w' := by
  have hs := sr_l h
  clear h
  rw [show msgB ⟨0, mf, mt, ids, my, ⟨ik, ⟨ic, ix⟩, iv, ig⟩, mh⟩ = false by simp [msgB, kindB, q]]
  go_enter Tryz.func144, Tryz.ntmps144
  go_wp2_with (first | (with_reducible refine gate_dst (N := 1) rfl ?_; refine box_tc rfl (N := 1) rfl (cs := #[.int .i64 0, .int .i64 mf, .int .i64 mt, .slice A ids.length c, .int .i64 my, .int .i64 ik, .int .i64 ic, .int .i64 ix, .int .i64 iv, .bool ig, .bool mh]) (t := 126) ?hr ?_; (case hr => first | (go_simp; done) | (go_simp; rfl)); intro g1 wg1 _ _ _) | (go_at_call 35; (with_reducible refine Calls.mono (place _ _) ?_); rintro e w' ⟨rfl, ⟨nd, rfl⟩⟩) | (with_reducible refine gate_dst (N := 3) rfl ?_; refine box_tc rfl (N := 3) rfl (cs := #[.int .i64 0, .int .i64 0, .int .i64 0, .slice none 0 0, .int .i64 0, .int .i64 0, .int .i64 0, .int .i64 0, .int .i64 0, .bool false, .bool false]) (t := 126) ?hr ?_; (case hr => first | (go_simp; done) | (go_simp; rfl)); intro g3 wg3 _ _ _) | (go_at_call 180; (with_reducible refine Calls.mono (none_) ?_); rintro e wb ⟨rfl, hb⟩) | (go_at_call 36; (with_reducible refine Calls.mono (places_) ?_); rintro e w' ⟨rfl, ⟨nd, rfl⟩⟩) | (go_at_call 57; (with_reducible refine Calls.mono (itemMay_) ?_); rintro e wb ⟨rfl, hb⟩))
  go_ret
  exact ⟨rfl, belL⟩
set_option maxHeartbeats 2000000 in
theorem msgMay_k0b {mf : Int} {mt : Int} {my : Int} {ik : Int} {ic : Int} {ix : Int} {iv : Int} {ig : Bool} {mh : Bool} {A : Option Addr} {c : Nat} {ids : List Int} {w : World} [h : Sr kI w A ids.length c ids] (p1 : placeB mf = true) (p2 : placeB mt = true) (p3 : (mf == mt) = false) (q : noneB 0 my ⟨ik, ⟨ic, ix⟩, iv, ig⟩ mh = true) (r : ¬ ids.length ≤ 16) :
    Calls Tryz.prog 144 #[.agg #[.int .i64 0, .int .i64 mf, .int .i64 mt, .slice A ids.length c, .int .i64 my, .int .i64 ik, .int .i64 ic, .int .i64 ix, .int .i64 iv, .bool ig, .bool mh]] w fun e w' => e = .returned (.bool (msgB ⟨0, mf, mt, ids, my, ⟨ik, ⟨ic, ix⟩, iv, ig⟩, mh⟩)) ∧ BelL w w' := by
  have hs := sr_l h
  clear h
  rw [show msgB ⟨0, mf, mt, ids, my, ⟨ik, ⟨ic, ix⟩, iv, ig⟩, mh⟩ = false by simp [msgB, kindB, r]]
  have r1 : decide ((ids.length : Int) ≤ 16) = false := decide_eq_false (by omega)
  clear r
  go_enter Tryz.func144, Tryz.ntmps144
  go_wp2_with (first | (with_reducible refine gate_dst (N := 1) rfl ?_; refine box_tc rfl (N := 1) rfl (cs := #[.int .i64 0, .int .i64 mf, .int .i64 mt, .slice A ids.length c, .int .i64 my, .int .i64 ik, .int .i64 ic, .int .i64 ix, .int .i64 iv, .bool ig, .bool mh]) (t := 126) ?hr ?_; (case hr => first | (go_simp; done) | (go_simp; rfl)); intro g1 wg1 _ _ _) | (go_at_call 35; (with_reducible refine Calls.mono (place _ _) ?_); rintro e w' ⟨rfl, ⟨nd, rfl⟩⟩) | (with_reducible refine gate_dst (N := 3) rfl ?_; refine box_tc rfl (N := 3) rfl (cs := #[.int .i64 0, .int .i64 0, .int .i64 0, .slice none 0 0, .int .i64 0, .int .i64 0, .int .i64 0, .int .i64 0, .int .i64 0, .bool false, .bool false]) (t := 126) ?hr ?_; (case hr => first | (go_simp; done) | (go_simp; rfl)); intro g3 wg3 _ _ _) | (go_at_call 180; (with_reducible refine Calls.mono (none_) ?_); rintro e wb ⟨rfl, hb⟩) | (go_at_call 36; (with_reducible refine Calls.mono (places_) ?_); rintro e w' ⟨rfl, ⟨nd, rfl⟩⟩) | (go_at_call 57; (with_reducible refine Calls.mono (itemMay_) ?_); rintro e wb ⟨rfl, hb⟩))
  go_ret
  exact ⟨rfl, belL⟩
set_option maxHeartbeats 2000000 in
theorem msgMay_k0c {mf : Int} {mt : Int} {my : Int} {ik : Int} {ic : Int} {ix : Int} {iv : Int} {ig : Bool} {mh : Bool} {A : Option Addr} {c : Nat} {ids : List Int} {w : World} [h : Sr kI w A ids.length c ids] (p1 : placeB mf = true) (p2 : placeB mt = true) (p3 : (mf == mt) = false) (q : noneB 0 my ⟨ik, ⟨ic, ix⟩, iv, ig⟩ mh = true) (r : ids.length ≤ 16) :
    Calls Tryz.prog 144 #[.agg #[.int .i64 0, .int .i64 mf, .int .i64 mt, .slice A ids.length c, .int .i64 my, .int .i64 ik, .int .i64 ic, .int .i64 ix, .int .i64 iv, .bool ig, .bool mh]] w fun e w' => e = .returned (.bool (msgB ⟨0, mf, mt, ids, my, ⟨ik, ⟨ic, ix⟩, iv, ig⟩, mh⟩)) ∧ BelL w w' := by
  have hs := sr_l h
  clear h
  rw [show msgB ⟨0, mf, mt, ids, my, ⟨ik, ⟨ic, ix⟩, iv, ig⟩, mh⟩ = placesB ids by simp [msgB, kindB, p1, p2, p3, q, r]]
  have r1 : decide ((ids.length : Int) ≤ 16) = true := decide_eq_true (by omega)
  clear r
  go_enter Tryz.func144, Tryz.ntmps144
  go_wp2_with (first | (with_reducible refine gate_dst (N := 1) rfl ?_; refine box_tc rfl (N := 1) rfl (cs := #[.int .i64 0, .int .i64 mf, .int .i64 mt, .slice A ids.length c, .int .i64 my, .int .i64 ik, .int .i64 ic, .int .i64 ix, .int .i64 iv, .bool ig, .bool mh]) (t := 126) ?hr ?_; (case hr => first | (go_simp; done) | (go_simp; rfl)); intro g1 wg1 _ _ _) | (go_at_call 35; (with_reducible refine Calls.mono (place _ _) ?_); rintro e w' ⟨rfl, ⟨nd, rfl⟩⟩) | (with_reducible refine gate_dst (N := 3) rfl ?_; refine box_tc rfl (N := 3) rfl (cs := #[.int .i64 0, .int .i64 0, .int .i64 0, .slice none 0 0, .int .i64 0, .int .i64 0, .int .i64 0, .int .i64 0, .int .i64 0, .bool false, .bool false]) (t := 126) ?hr ?_; (case hr => first | (go_simp; done) | (go_simp; rfl)); intro g3 wg3 _ _ _) | (go_at_call 180; (with_reducible refine Calls.mono (none_) ?_); rintro e wb ⟨rfl, hb⟩) | (go_at_call 36; (with_reducible refine Calls.mono (places_) ?_); rintro e w' ⟨rfl, ⟨nd, rfl⟩⟩) | (go_at_call 57; (with_reducible refine Calls.mono (itemMay_) ?_); rintro e wb ⟨rfl, hb⟩))
  go_ret
  exact ⟨rfl, belL⟩
set_option maxHeartbeats 2000000 in
theorem msgMay_k1a {mf : Int} {mt : Int} {my : Int} {ik : Int} {ic : Int} {ix : Int} {iv : Int} {ig : Bool} {mh : Bool} {A : Option Addr} {c : Nat} {ids : List Int} {w : World} [h : Sr kI w A ids.length c ids] (p1 : placeB mf = true) (p2 : placeB mt = true) (p3 : (mf == mt) = false) (q : noneB ids.length my ⟨0, ⟨0, 0⟩, 0, false⟩ mh = false) :
    Calls Tryz.prog 144 #[.agg #[.int .i64 1, .int .i64 mf, .int .i64 mt, .slice A ids.length c, .int .i64 my, .int .i64 ik, .int .i64 ic, .int .i64 ix, .int .i64 iv, .bool ig, .bool mh]] w fun e w' => e = .returned (.bool (msgB ⟨1, mf, mt, ids, my, ⟨ik, ⟨ic, ix⟩, iv, ig⟩, mh⟩)) ∧ BelL w w' := by
  have hs := sr_l h
  clear h
  rw [show msgB ⟨1, mf, mt, ids, my, ⟨ik, ⟨ic, ix⟩, iv, ig⟩, mh⟩ = false by simp [msgB, kindB, show noneB ids.length my z48 mh = false from q]]
  go_enter Tryz.func144, Tryz.ntmps144
  go_wp2_with (first | (with_reducible refine gate_dst (N := 1) rfl ?_; refine box_tc rfl (N := 1) rfl (cs := #[.int .i64 1, .int .i64 mf, .int .i64 mt, .slice A ids.length c, .int .i64 my, .int .i64 ik, .int .i64 ic, .int .i64 ix, .int .i64 iv, .bool ig, .bool mh]) (t := 126) ?hr ?_; (case hr => first | (go_simp; done) | (go_simp; rfl)); intro g1 wg1 _ _ _) | (go_at_call 35; (with_reducible refine Calls.mono (place _ _) ?_); rintro e w' ⟨rfl, ⟨nd, rfl⟩⟩) | (with_reducible refine gate_dst (N := 3) rfl ?_; refine box_tc rfl (N := 3) rfl (cs := #[.int .i64 0, .int .i64 0, .int .i64 0, .slice none 0 0, .int .i64 0, .int .i64 0, .int .i64 0, .int .i64 0, .int .i64 0, .bool false, .bool false]) (t := 126) ?hr ?_; (case hr => first | (go_simp; done) | (go_simp; rfl)); intro g3 wg3 _ _ _) | (go_at_call 180; (with_reducible refine Calls.mono (none_) ?_); rintro e wb ⟨rfl, hb⟩) | (go_at_call 36; (with_reducible refine Calls.mono (places_) ?_); rintro e w' ⟨rfl, ⟨nd, rfl⟩⟩) | (go_at_call 57; (with_reducible refine Calls.mono (itemMay_) ?_); rintro e wb ⟨rfl, hb⟩))
  go_ret
  exact ⟨rfl, belL⟩
set_option maxHeartbeats 2000000 in
theorem msgMay_k1b {mf : Int} {mt : Int} {my : Int} {ik : Int} {ic : Int} {ix : Int} {iv : Int} {ig : Bool} {mh : Bool} {A : Option Addr} {c : Nat} {ids : List Int} {w : World} [h : Sr kI w A ids.length c ids] (p1 : placeB mf = true) (p2 : placeB mt = true) (p3 : (mf == mt) = false) (q : noneB ids.length my ⟨0, ⟨0, 0⟩, 0, false⟩ mh = true) :
    Calls Tryz.prog 144 #[.agg #[.int .i64 1, .int .i64 mf, .int .i64 mt, .slice A ids.length c, .int .i64 my, .int .i64 ik, .int .i64 ic, .int .i64 ix, .int .i64 iv, .bool ig, .bool mh]] w fun e w' => e = .returned (.bool (msgB ⟨1, mf, mt, ids, my, ⟨ik, ⟨ic, ix⟩, iv, ig⟩, mh⟩)) ∧ BelL w w' := by
  have hs := sr_l h
  clear h
  rw [show msgB ⟨1, mf, mt, ids, my, ⟨ik, ⟨ic, ix⟩, iv, ig⟩, mh⟩ = itemB ik ic ix iv ig by simp [msgB, kindB, p1, p2, p3, show noneB ids.length my z48 mh = true from q, itemOk]]
  go_enter Tryz.func144, Tryz.ntmps144
  go_wp2_with (first | (with_reducible refine gate_dst (N := 1) rfl ?_; refine box_tc rfl (N := 1) rfl (cs := #[.int .i64 1, .int .i64 mf, .int .i64 mt, .slice A ids.length c, .int .i64 my, .int .i64 ik, .int .i64 ic, .int .i64 ix, .int .i64 iv, .bool ig, .bool mh]) (t := 126) ?hr ?_; (case hr => first | (go_simp; done) | (go_simp; rfl)); intro g1 wg1 _ _ _) | (go_at_call 35; (with_reducible refine Calls.mono (place _ _) ?_); rintro e w' ⟨rfl, ⟨nd, rfl⟩⟩) | (with_reducible refine gate_dst (N := 3) rfl ?_; refine box_tc rfl (N := 3) rfl (cs := #[.int .i64 0, .int .i64 0, .int .i64 0, .slice none 0 0, .int .i64 0, .int .i64 0, .int .i64 0, .int .i64 0, .int .i64 0, .bool false, .bool false]) (t := 126) ?hr ?_; (case hr => first | (go_simp; done) | (go_simp; rfl)); intro g3 wg3 _ _ _) | (go_at_call 180; (with_reducible refine Calls.mono (none_) ?_); rintro e wb ⟨rfl, hb⟩) | (go_at_call 36; (with_reducible refine Calls.mono (places_) ?_); rintro e w' ⟨rfl, ⟨nd, rfl⟩⟩) | (go_at_call 57; (with_reducible refine Calls.mono (itemMay_) ?_); rintro e wb ⟨rfl, hb⟩))
  go_ret
  exact ⟨rfl, belL⟩
set_option maxHeartbeats 2000000 in
theorem msgMay_k2a {mf : Int} {mt : Int} {my : Int} {ik : Int} {ic : Int} {ix : Int} {iv : Int} {ig : Bool} {mh : Bool} {A : Option Addr} {c : Nat} {ids : List Int} {w : World} [h : Sr kI w A ids.length c ids] (p1 : placeB mf = true) (p2 : placeB mt = true) (p3 : (mf == mt) = false) (q : noneB ids.length 0 ⟨ik, ⟨ic, ix⟩, iv, ig⟩ mh = false) :
    Calls Tryz.prog 144 #[.agg #[.int .i64 2, .int .i64 mf, .int .i64 mt, .slice A ids.length c, .int .i64 my, .int .i64 ik, .int .i64 ic, .int .i64 ix, .int .i64 iv, .bool ig, .bool mh]] w fun e w' => e = .returned (.bool (msgB ⟨2, mf, mt, ids, my, ⟨ik, ⟨ic, ix⟩, iv, ig⟩, mh⟩)) ∧ BelL w w' := by
  have hs := sr_l h
  clear h
  rw [show msgB ⟨2, mf, mt, ids, my, ⟨ik, ⟨ic, ix⟩, iv, ig⟩, mh⟩ = false by simp [msgB, kindB, q]]
  go_enter Tryz.func144, Tryz.ntmps144
  go_wp2_with (first | (with_reducible refine gate_dst (N := 1) rfl ?_; refine box_tc rfl (N := 1) rfl (cs := #[.int .i64 2, .int .i64 mf, .int .i64 mt, .slice A ids.length c, .int .i64 my, .int .i64 ik, .int .i64 ic, .int .i64 ix, .int .i64 iv, .bool ig, .bool mh]) (t := 126) ?hr ?_; (case hr => first | (go_simp; done) | (go_simp; rfl)); intro g1 wg1 _ _ _) | (go_at_call 35; (with_reducible refine Calls.mono (place _ _) ?_); rintro e w' ⟨rfl, ⟨nd, rfl⟩⟩) | (with_reducible refine gate_dst (N := 3) rfl ?_; refine box_tc rfl (N := 3) rfl (cs := #[.int .i64 0, .int .i64 0, .int .i64 0, .slice none 0 0, .int .i64 0, .int .i64 0, .int .i64 0, .int .i64 0, .int .i64 0, .bool false, .bool false]) (t := 126) ?hr ?_; (case hr => first | (go_simp; done) | (go_simp; rfl)); intro g3 wg3 _ _ _) | (go_at_call 180; (with_reducible refine Calls.mono (none_) ?_); rintro e wb ⟨rfl, hb⟩) | (go_at_call 36; (with_reducible refine Calls.mono (places_) ?_); rintro e w' ⟨rfl, ⟨nd, rfl⟩⟩) | (go_at_call 57; (with_reducible refine Calls.mono (itemMay_) ?_); rintro e wb ⟨rfl, hb⟩))
  go_ret
  exact ⟨rfl, belL⟩
set_option maxHeartbeats 2000000 in
theorem msgMay_k2b {mf : Int} {mt : Int} {my : Int} {ik : Int} {ic : Int} {ix : Int} {iv : Int} {ig : Bool} {mh : Bool} {A : Option Addr} {c : Nat} {ids : List Int} {w : World} [h : Sr kI w A ids.length c ids] (p1 : placeB mf = true) (p2 : placeB mt = true) (p3 : (mf == mt) = false) (q : noneB ids.length 0 ⟨ik, ⟨ic, ix⟩, iv, ig⟩ mh = true) :
    Calls Tryz.prog 144 #[.agg #[.int .i64 2, .int .i64 mf, .int .i64 mt, .slice A ids.length c, .int .i64 my, .int .i64 ik, .int .i64 ic, .int .i64 ix, .int .i64 iv, .bool ig, .bool mh]] w fun e w' => e = .returned (.bool (msgB ⟨2, mf, mt, ids, my, ⟨ik, ⟨ic, ix⟩, iv, ig⟩, mh⟩)) ∧ BelL w w' := by
  have hs := sr_l h
  clear h
  rw [show msgB ⟨2, mf, mt, ids, my, ⟨ik, ⟨ic, ix⟩, iv, ig⟩, mh⟩ = placeB my by simp [msgB, kindB, p1, p2, p3, q]]
  go_enter Tryz.func144, Tryz.ntmps144
  go_wp2_with (first | (with_reducible refine gate_dst (N := 1) rfl ?_; refine box_tc rfl (N := 1) rfl (cs := #[.int .i64 2, .int .i64 mf, .int .i64 mt, .slice A ids.length c, .int .i64 my, .int .i64 ik, .int .i64 ic, .int .i64 ix, .int .i64 iv, .bool ig, .bool mh]) (t := 126) ?hr ?_; (case hr => first | (go_simp; done) | (go_simp; rfl)); intro g1 wg1 _ _ _) | (go_at_call 35; (with_reducible refine Calls.mono (place _ _) ?_); rintro e w' ⟨rfl, ⟨nd, rfl⟩⟩) | (with_reducible refine gate_dst (N := 3) rfl ?_; refine box_tc rfl (N := 3) rfl (cs := #[.int .i64 0, .int .i64 0, .int .i64 0, .slice none 0 0, .int .i64 0, .int .i64 0, .int .i64 0, .int .i64 0, .int .i64 0, .bool false, .bool false]) (t := 126) ?hr ?_; (case hr => first | (go_simp; done) | (go_simp; rfl)); intro g3 wg3 _ _ _) | (go_at_call 180; (with_reducible refine Calls.mono (none_) ?_); rintro e wb ⟨rfl, hb⟩) | (go_at_call 36; (with_reducible refine Calls.mono (places_) ?_); rintro e w' ⟨rfl, ⟨nd, rfl⟩⟩) | (go_at_call 57; (with_reducible refine Calls.mono (itemMay_) ?_); rintro e wb ⟨rfl, hb⟩))
  go_ret
  exact ⟨rfl, belL⟩
set_option maxHeartbeats 2000000 in
theorem msgMay_k3a {mf : Int} {mt : Int} {my : Int} {ik : Int} {ic : Int} {ix : Int} {iv : Int} {ig : Bool} {A : Option Addr} {c : Nat} {ids : List Int} {w : World} [h : Sr kI w A ids.length c ids] (p1 : placeB mf = true) (p2 : placeB mt = true) (p3 : (mf == mt) = false) (q : noneB ids.length 0 ⟨ik, ⟨ic, ix⟩, iv, ig⟩ false = false) :
    Calls Tryz.prog 144 #[.agg #[.int .i64 3, .int .i64 mf, .int .i64 mt, .slice A ids.length c, .int .i64 my, .int .i64 ik, .int .i64 ic, .int .i64 ix, .int .i64 iv, .bool ig, .bool false]] w fun e w' => e = .returned (.bool (msgB ⟨3, mf, mt, ids, my, ⟨ik, ⟨ic, ix⟩, iv, ig⟩, false⟩)) ∧ BelL w w' := by
  have hs := sr_l h
  clear h
  rw [show msgB ⟨3, mf, mt, ids, my, ⟨ik, ⟨ic, ix⟩, iv, ig⟩, false⟩ = false by simp [msgB, kindB, q]]
  go_enter Tryz.func144, Tryz.ntmps144
  go_wp2_with (first | (with_reducible refine gate_dst (N := 1) rfl ?_; refine box_tc rfl (N := 1) rfl (cs := #[.int .i64 3, .int .i64 mf, .int .i64 mt, .slice A ids.length c, .int .i64 my, .int .i64 ik, .int .i64 ic, .int .i64 ix, .int .i64 iv, .bool ig, .bool false]) (t := 126) ?hr ?_; (case hr => first | (go_simp; done) | (go_simp; rfl)); intro g1 wg1 _ _ _) | (go_at_call 35; (with_reducible refine Calls.mono (place _ _) ?_); rintro e w' ⟨rfl, ⟨nd, rfl⟩⟩) | (with_reducible refine gate_dst (N := 3) rfl ?_; refine box_tc rfl (N := 3) rfl (cs := #[.int .i64 0, .int .i64 0, .int .i64 0, .slice none 0 0, .int .i64 0, .int .i64 0, .int .i64 0, .int .i64 0, .int .i64 0, .bool false, .bool false]) (t := 126) ?hr ?_; (case hr => first | (go_simp; done) | (go_simp; rfl)); intro g3 wg3 _ _ _) | (go_at_call 180; (with_reducible refine Calls.mono (none_) ?_); rintro e wb ⟨rfl, hb⟩) | (go_at_call 36; (with_reducible refine Calls.mono (places_) ?_); rintro e w' ⟨rfl, ⟨nd, rfl⟩⟩) | (go_at_call 57; (with_reducible refine Calls.mono (itemMay_) ?_); rintro e wb ⟨rfl, hb⟩))
  go_ret
  exact ⟨rfl, belL⟩
set_option maxHeartbeats 2000000 in
theorem msgMay_k3b {mf : Int} {mt : Int} {my : Int} {ik : Int} {ic : Int} {ix : Int} {iv : Int} {ig : Bool} {A : Option Addr} {c : Nat} {ids : List Int} {w : World} [h : Sr kI w A ids.length c ids] (p1 : placeB mf = true) (p2 : placeB mt = true) (p3 : (mf == mt) = false) (q : noneB ids.length 0 ⟨ik, ⟨ic, ix⟩, iv, ig⟩ false = true) (r : placeB my = false) :
    Calls Tryz.prog 144 #[.agg #[.int .i64 3, .int .i64 mf, .int .i64 mt, .slice A ids.length c, .int .i64 my, .int .i64 ik, .int .i64 ic, .int .i64 ix, .int .i64 iv, .bool ig, .bool false]] w fun e w' => e = .returned (.bool (msgB ⟨3, mf, mt, ids, my, ⟨ik, ⟨ic, ix⟩, iv, ig⟩, false⟩)) ∧ BelL w w' := by
  have hs := sr_l h
  clear h
  rw [show msgB ⟨3, mf, mt, ids, my, ⟨ik, ⟨ic, ix⟩, iv, ig⟩, false⟩ = false by simp [msgB, kindB, r]]
  go_enter Tryz.func144, Tryz.ntmps144
  go_wp2_with (first | (with_reducible refine gate_dst (N := 1) rfl ?_; refine box_tc rfl (N := 1) rfl (cs := #[.int .i64 3, .int .i64 mf, .int .i64 mt, .slice A ids.length c, .int .i64 my, .int .i64 ik, .int .i64 ic, .int .i64 ix, .int .i64 iv, .bool ig, .bool false]) (t := 126) ?hr ?_; (case hr => first | (go_simp; done) | (go_simp; rfl)); intro g1 wg1 _ _ _) | (go_at_call 35; (with_reducible refine Calls.mono (place _ _) ?_); rintro e w' ⟨rfl, ⟨nd, rfl⟩⟩) | (with_reducible refine gate_dst (N := 3) rfl ?_; refine box_tc rfl (N := 3) rfl (cs := #[.int .i64 0, .int .i64 0, .int .i64 0, .slice none 0 0, .int .i64 0, .int .i64 0, .int .i64 0, .int .i64 0, .int .i64 0, .bool false, .bool false]) (t := 126) ?hr ?_; (case hr => first | (go_simp; done) | (go_simp; rfl)); intro g3 wg3 _ _ _) | (go_at_call 180; (with_reducible refine Calls.mono (none_) ?_); rintro e wb ⟨rfl, hb⟩) | (go_at_call 36; (with_reducible refine Calls.mono (places_) ?_); rintro e w' ⟨rfl, ⟨nd, rfl⟩⟩) | (go_at_call 57; (with_reducible refine Calls.mono (itemMay_) ?_); rintro e wb ⟨rfl, hb⟩))
  go_ret
  exact ⟨rfl, belL⟩
set_option maxHeartbeats 2000000 in
theorem msgMay_k3c {mf : Int} {mt : Int} {my : Int} {ik : Int} {ic : Int} {ix : Int} {iv : Int} {ig : Bool} {A : Option Addr} {c : Nat} {ids : List Int} {w : World} [h : Sr kI w A ids.length c ids] (p1 : placeB mf = true) (p2 : placeB mt = true) (p3 : (mf == mt) = false) (q : noneB ids.length 0 ⟨ik, ⟨ic, ix⟩, iv, ig⟩ false = true) (r : placeB my = true) :
    Calls Tryz.prog 144 #[.agg #[.int .i64 3, .int .i64 mf, .int .i64 mt, .slice A ids.length c, .int .i64 my, .int .i64 ik, .int .i64 ic, .int .i64 ix, .int .i64 iv, .bool ig, .bool false]] w fun e w' => e = .returned (.bool (msgB ⟨3, mf, mt, ids, my, ⟨ik, ⟨ic, ix⟩, iv, ig⟩, false⟩)) ∧ BelL w w' := by
  have hs := sr_l h
  clear h
  rw [show msgB ⟨3, mf, mt, ids, my, ⟨ik, ⟨ic, ix⟩, iv, ig⟩, false⟩ = true by simp [msgB, kindB, p1, p2, p3, q, r]]
  go_enter Tryz.func144, Tryz.ntmps144
  go_wp2_with (first | (with_reducible refine gate_dst (N := 1) rfl ?_; refine box_tc rfl (N := 1) rfl (cs := #[.int .i64 3, .int .i64 mf, .int .i64 mt, .slice A ids.length c, .int .i64 my, .int .i64 ik, .int .i64 ic, .int .i64 ix, .int .i64 iv, .bool ig, .bool false]) (t := 126) ?hr ?_; (case hr => first | (go_simp; done) | (go_simp; rfl)); intro g1 wg1 _ _ _) | (go_at_call 35; (with_reducible refine Calls.mono (place _ _) ?_); rintro e w' ⟨rfl, ⟨nd, rfl⟩⟩) | (with_reducible refine gate_dst (N := 3) rfl ?_; refine box_tc rfl (N := 3) rfl (cs := #[.int .i64 0, .int .i64 0, .int .i64 0, .slice none 0 0, .int .i64 0, .int .i64 0, .int .i64 0, .int .i64 0, .int .i64 0, .bool false, .bool false]) (t := 126) ?hr ?_; (case hr => first | (go_simp; done) | (go_simp; rfl)); intro g3 wg3 _ _ _) | (go_at_call 180; (with_reducible refine Calls.mono (none_) ?_); rintro e wb ⟨rfl, hb⟩) | (go_at_call 36; (with_reducible refine Calls.mono (places_) ?_); rintro e w' ⟨rfl, ⟨nd, rfl⟩⟩) | (go_at_call 57; (with_reducible refine Calls.mono (itemMay_) ?_); rintro e wb ⟨rfl, hb⟩))
  go_ret
  exact ⟨rfl, belL⟩
set_option maxHeartbeats 2000000 in
theorem msgMay_k3d {mf : Int} {mt : Int} {my : Int} {ik : Int} {ic : Int} {ix : Int} {iv : Int} {ig : Bool} {A : Option Addr} {c : Nat} {ids : List Int} {w : World} [h : Sr kI w A ids.length c ids] (p1 : placeB mf = true) (p2 : placeB mt = true) (p3 : (mf == mt) = false) (q : noneB ids.length 0 ⟨0, ⟨0, 0⟩, 0, false⟩ false = false) :
    Calls Tryz.prog 144 #[.agg #[.int .i64 3, .int .i64 mf, .int .i64 mt, .slice A ids.length c, .int .i64 my, .int .i64 ik, .int .i64 ic, .int .i64 ix, .int .i64 iv, .bool ig, .bool true]] w fun e w' => e = .returned (.bool (msgB ⟨3, mf, mt, ids, my, ⟨ik, ⟨ic, ix⟩, iv, ig⟩, true⟩)) ∧ BelL w w' := by
  have hs := sr_l h
  clear h
  rw [show msgB ⟨3, mf, mt, ids, my, ⟨ik, ⟨ic, ix⟩, iv, ig⟩, true⟩ = false by simp [msgB, kindB, show noneB ids.length 0 z48 false = false from q]]
  go_enter Tryz.func144, Tryz.ntmps144
  go_wp2_with (first | (with_reducible refine gate_dst (N := 1) rfl ?_; refine box_tc rfl (N := 1) rfl (cs := #[.int .i64 3, .int .i64 mf, .int .i64 mt, .slice A ids.length c, .int .i64 my, .int .i64 ik, .int .i64 ic, .int .i64 ix, .int .i64 iv, .bool ig, .bool true]) (t := 126) ?hr ?_; (case hr => first | (go_simp; done) | (go_simp; rfl)); intro g1 wg1 _ _ _) | (go_at_call 35; (with_reducible refine Calls.mono (place _ _) ?_); rintro e w' ⟨rfl, ⟨nd, rfl⟩⟩) | (with_reducible refine gate_dst (N := 3) rfl ?_; refine box_tc rfl (N := 3) rfl (cs := #[.int .i64 0, .int .i64 0, .int .i64 0, .slice none 0 0, .int .i64 0, .int .i64 0, .int .i64 0, .int .i64 0, .int .i64 0, .bool false, .bool false]) (t := 126) ?hr ?_; (case hr => first | (go_simp; done) | (go_simp; rfl)); intro g3 wg3 _ _ _) | (go_at_call 180; (with_reducible refine Calls.mono (none_) ?_); rintro e wb ⟨rfl, hb⟩) | (go_at_call 36; (with_reducible refine Calls.mono (places_) ?_); rintro e w' ⟨rfl, ⟨nd, rfl⟩⟩) | (go_at_call 57; (with_reducible refine Calls.mono (itemMay_) ?_); rintro e wb ⟨rfl, hb⟩))
  go_ret
  exact ⟨rfl, belL⟩
set_option maxHeartbeats 2000000 in
theorem msgMay_k3e {mf : Int} {mt : Int} {my : Int} {ik : Int} {ic : Int} {ix : Int} {iv : Int} {ig : Bool} {A : Option Addr} {c : Nat} {ids : List Int} {w : World} [h : Sr kI w A ids.length c ids] (p1 : placeB mf = true) (p2 : placeB mt = true) (p3 : (mf == mt) = false) (q : noneB ids.length 0 ⟨0, ⟨0, 0⟩, 0, false⟩ false = true) (r : placeB my = false) :
    Calls Tryz.prog 144 #[.agg #[.int .i64 3, .int .i64 mf, .int .i64 mt, .slice A ids.length c, .int .i64 my, .int .i64 ik, .int .i64 ic, .int .i64 ix, .int .i64 iv, .bool ig, .bool true]] w fun e w' => e = .returned (.bool (msgB ⟨3, mf, mt, ids, my, ⟨ik, ⟨ic, ix⟩, iv, ig⟩, true⟩)) ∧ BelL w w' := by
  have hs := sr_l h
  clear h
  rw [show msgB ⟨3, mf, mt, ids, my, ⟨ik, ⟨ic, ix⟩, iv, ig⟩, true⟩ = false by simp [msgB, kindB, r]]
  go_enter Tryz.func144, Tryz.ntmps144
  go_wp2_with (first | (with_reducible refine gate_dst (N := 1) rfl ?_; refine box_tc rfl (N := 1) rfl (cs := #[.int .i64 3, .int .i64 mf, .int .i64 mt, .slice A ids.length c, .int .i64 my, .int .i64 ik, .int .i64 ic, .int .i64 ix, .int .i64 iv, .bool ig, .bool true]) (t := 126) ?hr ?_; (case hr => first | (go_simp; done) | (go_simp; rfl)); intro g1 wg1 _ _ _) | (go_at_call 35; (with_reducible refine Calls.mono (place _ _) ?_); rintro e w' ⟨rfl, ⟨nd, rfl⟩⟩) | (with_reducible refine gate_dst (N := 3) rfl ?_; refine box_tc rfl (N := 3) rfl (cs := #[.int .i64 0, .int .i64 0, .int .i64 0, .slice none 0 0, .int .i64 0, .int .i64 0, .int .i64 0, .int .i64 0, .int .i64 0, .bool false, .bool false]) (t := 126) ?hr ?_; (case hr => first | (go_simp; done) | (go_simp; rfl)); intro g3 wg3 _ _ _) | (go_at_call 180; (with_reducible refine Calls.mono (none_) ?_); rintro e wb ⟨rfl, hb⟩) | (go_at_call 36; (with_reducible refine Calls.mono (places_) ?_); rintro e w' ⟨rfl, ⟨nd, rfl⟩⟩) | (go_at_call 57; (with_reducible refine Calls.mono (itemMay_) ?_); rintro e wb ⟨rfl, hb⟩))
  go_ret
  exact ⟨rfl, belL⟩
set_option maxHeartbeats 2000000 in
theorem msgMay_k3f {mf : Int} {mt : Int} {my : Int} {ik : Int} {ic : Int} {ix : Int} {iv : Int} {ig : Bool} {A : Option Addr} {c : Nat} {ids : List Int} {w : World} [h : Sr kI w A ids.length c ids] (p1 : placeB mf = true) (p2 : placeB mt = true) (p3 : (mf == mt) = false) (q : noneB ids.length 0 ⟨0, ⟨0, 0⟩, 0, false⟩ false = true) (r : placeB my = true) (s : itemB ik ic ix iv ig = false) :
    Calls Tryz.prog 144 #[.agg #[.int .i64 3, .int .i64 mf, .int .i64 mt, .slice A ids.length c, .int .i64 my, .int .i64 ik, .int .i64 ic, .int .i64 ix, .int .i64 iv, .bool ig, .bool true]] w fun e w' => e = .returned (.bool (msgB ⟨3, mf, mt, ids, my, ⟨ik, ⟨ic, ix⟩, iv, ig⟩, true⟩)) ∧ BelL w w' := by
  have hs := sr_l h
  clear h
  rw [show msgB ⟨3, mf, mt, ids, my, ⟨ik, ⟨ic, ix⟩, iv, ig⟩, true⟩ = false by simp [msgB, kindB, itemOk, s]]
  go_enter Tryz.func144, Tryz.ntmps144
  go_wp2_with (first | (with_reducible refine gate_dst (N := 1) rfl ?_; refine box_tc rfl (N := 1) rfl (cs := #[.int .i64 3, .int .i64 mf, .int .i64 mt, .slice A ids.length c, .int .i64 my, .int .i64 ik, .int .i64 ic, .int .i64 ix, .int .i64 iv, .bool ig, .bool true]) (t := 126) ?hr ?_; (case hr => first | (go_simp; done) | (go_simp; rfl)); intro g1 wg1 _ _ _) | (go_at_call 35; (with_reducible refine Calls.mono (place _ _) ?_); rintro e w' ⟨rfl, ⟨nd, rfl⟩⟩) | (with_reducible refine gate_dst (N := 3) rfl ?_; refine box_tc rfl (N := 3) rfl (cs := #[.int .i64 0, .int .i64 0, .int .i64 0, .slice none 0 0, .int .i64 0, .int .i64 0, .int .i64 0, .int .i64 0, .int .i64 0, .bool false, .bool false]) (t := 126) ?hr ?_; (case hr => first | (go_simp; done) | (go_simp; rfl)); intro g3 wg3 _ _ _) | (go_at_call 180; (with_reducible refine Calls.mono (none_) ?_); rintro e wb ⟨rfl, hb⟩) | (go_at_call 36; (with_reducible refine Calls.mono (places_) ?_); rintro e w' ⟨rfl, ⟨nd, rfl⟩⟩) | (go_at_call 57; (with_reducible refine Calls.mono (itemMay_) ?_); rintro e wb ⟨rfl, hb⟩))
  go_ret
  exact ⟨rfl, belL⟩
set_option maxHeartbeats 2000000 in
theorem msgMay_k3g {mf : Int} {mt : Int} {my : Int} {ik : Int} {ic : Int} {ix : Int} {iv : Int} {ig : Bool} {A : Option Addr} {c : Nat} {ids : List Int} {w : World} [h : Sr kI w A ids.length c ids] (p1 : placeB mf = true) (p2 : placeB mt = true) (p3 : (mf == mt) = false) (q : noneB ids.length 0 ⟨0, ⟨0, 0⟩, 0, false⟩ false = true) (r : placeB my = true) (s : itemB ik ic ix iv ig = true) :
    Calls Tryz.prog 144 #[.agg #[.int .i64 3, .int .i64 mf, .int .i64 mt, .slice A ids.length c, .int .i64 my, .int .i64 ik, .int .i64 ic, .int .i64 ix, .int .i64 iv, .bool ig, .bool true]] w fun e w' => e = .returned (.bool (msgB ⟨3, mf, mt, ids, my, ⟨ik, ⟨ic, ix⟩, iv, ig⟩, true⟩)) ∧ BelL w w' := by
  have hs := sr_l h
  clear h
  rw [show msgB ⟨3, mf, mt, ids, my, ⟨ik, ⟨ic, ix⟩, iv, ig⟩, true⟩ = (ik == my) by simp [msgB, kindB, p1, p2, p3, show noneB ids.length 0 z48 false = true from q, r, itemOk, s]]
  go_enter Tryz.func144, Tryz.ntmps144
  go_wp2_with (first | (with_reducible refine gate_dst (N := 1) rfl ?_; refine box_tc rfl (N := 1) rfl (cs := #[.int .i64 3, .int .i64 mf, .int .i64 mt, .slice A ids.length c, .int .i64 my, .int .i64 ik, .int .i64 ic, .int .i64 ix, .int .i64 iv, .bool ig, .bool true]) (t := 126) ?hr ?_; (case hr => first | (go_simp; done) | (go_simp; rfl)); intro g1 wg1 _ _ _) | (go_at_call 35; (with_reducible refine Calls.mono (place _ _) ?_); rintro e w' ⟨rfl, ⟨nd, rfl⟩⟩) | (with_reducible refine gate_dst (N := 3) rfl ?_; refine box_tc rfl (N := 3) rfl (cs := #[.int .i64 0, .int .i64 0, .int .i64 0, .slice none 0 0, .int .i64 0, .int .i64 0, .int .i64 0, .int .i64 0, .int .i64 0, .bool false, .bool false]) (t := 126) ?hr ?_; (case hr => first | (go_simp; done) | (go_simp; rfl)); intro g3 wg3 _ _ _) | (go_at_call 180; (with_reducible refine Calls.mono (none_) ?_); rintro e wb ⟨rfl, hb⟩) | (go_at_call 36; (with_reducible refine Calls.mono (places_) ?_); rintro e w' ⟨rfl, ⟨nd, rfl⟩⟩) | (go_at_call 57; (with_reducible refine Calls.mono (itemMay_) ?_); rintro e wb ⟨rfl, hb⟩))
  go_ret
  exact ⟨rfl, belL⟩
set_option maxHeartbeats 2000000 in
theorem msgMay_z {mk : Int} {mf : Int} {mt : Int} {my : Int} {ik : Int} {ic : Int} {ix : Int} {iv : Int} {ig : Bool} {mh : Bool} {A : Option Addr} {c : Nat} {ids : List Int} {w : World} [h : Sr kI w A ids.length c ids] (p1 : placeB mf = true) (p2 : placeB mt = true) (p3 : (mf == mt) = false) (q0 : ¬ mk = 0) (q1 : ¬ mk = 1) (q2 : ¬ mk = 2) (q3 : ¬ mk = 3) :
    Calls Tryz.prog 144 #[.agg #[.int .i64 mk, .int .i64 mf, .int .i64 mt, .slice A ids.length c, .int .i64 my, .int .i64 ik, .int .i64 ic, .int .i64 ix, .int .i64 iv, .bool ig, .bool mh]] w fun e w' => e = .returned (.bool (msgB ⟨mk, mf, mt, ids, my, ⟨ik, ⟨ic, ix⟩, iv, ig⟩, mh⟩)) ∧ BelL w w' := by
  have hs := sr_l h
  clear h
  rw [show msgB ⟨mk, mf, mt, ids, my, ⟨ik, ⟨ic, ix⟩, iv, ig⟩, mh⟩ = false by simp [msgB, kindB, q0, q1, q2, q3]]
  have r0 : (mk == 0) = false := by simpa using q0
  have r1 : (mk == 1) = false := by simpa using q1
  have r2 : (mk == 2) = false := by simpa using q2
  have r3 : (mk == 3) = false := by simpa using q3
  clear q0 q1 q2 q3
  go_enter Tryz.func144, Tryz.ntmps144
  go_wp2_with (first | (with_reducible refine gate_dst (N := 1) rfl ?_; refine box_tc rfl (N := 1) rfl (cs := #[.int .i64 mk, .int .i64 mf, .int .i64 mt, .slice A ids.length c, .int .i64 my, .int .i64 ik, .int .i64 ic, .int .i64 ix, .int .i64 iv, .bool ig, .bool mh]) (t := 126) ?hr ?_; (case hr => first | (go_simp; done) | (go_simp; rfl)); intro g1 wg1 _ _ _) | (go_at_call 35; (with_reducible refine Calls.mono (place _ _) ?_); rintro e w' ⟨rfl, ⟨nd, rfl⟩⟩) | (with_reducible refine gate_dst (N := 3) rfl ?_; refine box_tc rfl (N := 3) rfl (cs := #[.int .i64 0, .int .i64 0, .int .i64 0, .slice none 0 0, .int .i64 0, .int .i64 0, .int .i64 0, .int .i64 0, .int .i64 0, .bool false, .bool false]) (t := 126) ?hr ?_; (case hr => first | (go_simp; done) | (go_simp; rfl)); intro g3 wg3 _ _ _) | (go_at_call 180; (with_reducible refine Calls.mono (none_) ?_); rintro e wb ⟨rfl, hb⟩) | (go_at_call 36; (with_reducible refine Calls.mono (places_) ?_); rintro e w' ⟨rfl, ⟨nd, rfl⟩⟩) | (go_at_call 57; (with_reducible refine Calls.mono (itemMay_) ?_); rintro e wb ⟨rfl, hb⟩))
  go_ret
  exact ⟨rfl, belL⟩
theorem msgMay_ {mk mf mt my ik ic ix iv : Int} {ig mh : Bool} {A : Option Addr} {n c : Nat} {ids : List Int} {w : World} [h : Sr kI w A n c ids] :
    Calls Tryz.prog 144 #[.agg #[.int .i64 mk, .int .i64 mf, .int .i64 mt, .slice A n c, .int .i64 my, .int .i64 ik, .int .i64 ic, .int .i64 ix, .int .i64 iv, .bool ig, .bool mh]] w fun e w' => e = .returned (.bool (msgB ⟨mk, mf, mt, ids, my, ⟨ik, ⟨ic, ix⟩, iv, ig⟩, mh⟩)) ∧ BelL w w' := by
  obtain rfl := h.len
  cases p1 : placeB mf
  · exact msgMay_a p1
  cases p2 : placeB mt
  · exact msgMay_b p1 p2
  cases p3 : (mf == mt)
  · by_cases q0 : mk = 0
    · subst q0
      cases q : noneB 0 my ⟨ik, ⟨ic, ix⟩, iv, ig⟩ mh
      · exact msgMay_k0a p1 p2 p3 q
      by_cases r : ids.length ≤ 16
      · exact msgMay_k0c p1 p2 p3 q r
      · exact msgMay_k0b p1 p2 p3 q r
    by_cases q1 : mk = 1
    · subst q1
      cases q : noneB ids.length my ⟨0, ⟨0, 0⟩, 0, false⟩ mh
      · exact msgMay_k1a p1 p2 p3 q
      · exact msgMay_k1b p1 p2 p3 q
    by_cases q2 : mk = 2
    · subst q2
      cases q : noneB ids.length 0 ⟨ik, ⟨ic, ix⟩, iv, ig⟩ mh
      · exact msgMay_k2a p1 p2 p3 q
      · exact msgMay_k2b p1 p2 p3 q
    by_cases q3 : mk = 3
    · subst q3
      cases mh
      · cases q : noneB ids.length 0 ⟨ik, ⟨ic, ix⟩, iv, ig⟩ false
        · exact msgMay_k3a p1 p2 p3 q
        cases r : placeB my
        · exact msgMay_k3b p1 p2 p3 q r
        · exact msgMay_k3c p1 p2 p3 q r
      · cases q : noneB ids.length 0 ⟨0, ⟨0, 0⟩, 0, false⟩ false
        · exact msgMay_k3d p1 p2 p3 q
        cases r : placeB my
        · exact msgMay_k3e p1 p2 p3 q r
        cases s : itemB ik ic ix iv ig
        · exact msgMay_k3f p1 p2 p3 q r s
        · exact msgMay_k3g p1 p2 p3 q r s
    exact msgMay_z p1 p2 p3 q0 q1 q2 q3
  · exact msgMay_c p1 p2 p3
end Go.Proofs.YtljipbmmgcccnaaGreat.T
end
section
namespace Go.Proofs.YtljipbmmgcccnaaGreat.T
open Go.RowKit Go.Proofs.YtljipbmmgcccnaaGreatW.PrintWords Go.Proofs.YtljipbmmgcccnaaGreatW.PrintLast Go.Proofs.YtljipbmmgcccnaaGreatW.PrintMore
attribute [local go_sem] cell_tc frozen_tc max2_int min2_int
attribute [local go_sem ↓] Go.wp_at_zero Go.wp_at_succ
set_option linter.unusedVariables false
set_option linter.unusedSimpArgs false
set_option synthInstance.maxHeartbeats 400000
set_option synthInstance.maxSize 512
attribute [local go_sem] cell_tc2
def tg {α : Type} (k : Kd α) (w0 : World) : Kd (Bool × α) where
  sz := k.sz
  E := k.E
  K := fun w x cs => if x.1 then k.K w x.2 cs else k.K w0 x.2 cs
  M := fun w b ok x cs => if x.1 then k.M w b ok x.2 cs else k.K w0 x.2 cs
  K_len := fun {w x cs} h => by rcases x with ⟨_ | _, x⟩ <;> exact k.K_len h
  K_one := fun {w x cs} h => by rcases x with ⟨_ | _, x⟩ <;> exact k.K_one h
  K_below := fun {w w1 x cs} hb h => by
    rcases x with ⟨_ | _, x⟩
    · exact h
    · exact k.K_below hb h
  K_of_M := fun {w b ok x cs} h => by
    rcases x with ⟨_ | _, x⟩
    · exact h
    · exact k.K_of_M h
  M_mono := fun {w b ok ok' x cs} hok h => by
    rcases x with ⟨_ | _, x⟩
    · exact h
    · exact k.M_mono hok h
  M_bound := fun {w b ok x cs} h => by
    rcases x with ⟨_ | _, x⟩
    · exact h
    · exact k.M_bound h
  M_move := fun {w w1 b ok x cs} hm h => by
    rcases x with ⟨_ | _, x⟩
    · exact h
    · exact k.M_move hm h
  M_lower := fun {w b b' ok x cs} hb h => by
    rcases x with ⟨_ | _, x⟩
    · exact h
    · exact k.M_lower hb h
theorem tg_done {α : Type} {k : Kd α} {w0 W : World} {e b : Nat} {ok : Nat → Prop} {v : Value} {xs : List α} (h : (tg k w0).R e W b ok v (xs.map fun x => (true, x))) : k.R e W b ok v xs := by
  obtain ⟨h0, inner, ho, hr⟩ := h
  refine ⟨h0, inner, by rw [List.length_map] at ho; exact ho, ⟨by have := hr.1; rw [List.length_map] at this; exact this, fun j p hj => ?_⟩⟩
  exact hr.2 j (true, p) (by rw [List.getElem?_map, hj]; rfl)
theorem tg_C {α : Type} {k : Kd α} {w : World} {A : Option Addr} {n : Nat} {xs : List α} (h : k.C w A n xs) : ReadsRow (fun (x : Bool × α) cs => x.1 = false ∧ k.K w x.2 cs) (tg k w).sz w A n (xs.map fun x => (false, x)) := by
  refine ⟨by rw [List.length_map]; exact h.1, h.2.1, fun hn => ?_⟩
  obtain ⟨ad, e, hc⟩ := h.2.2 hn
  refine ⟨ad, e, fun j p hj => ?_⟩
  rw [List.getElem?_map] at hj
  obtain ⟨q, hq, rfl⟩ := Option.map_eq_some_iff.1 hj
  obtain ⟨c, hc1, hc2, hc3⟩ := hc j q hq
  exact ⟨c, hc1, ⟨rfl, hc2⟩, hc3⟩
theorem reads_below {α : Type} {R : α → List Value → Prop} {s : Nat} {w W : World} {A : Option Addr} {n : Nat} {xs : List α} (h : ReadsRow R s w A n xs) (hb : Below w.heap.size w W) : ReadsRow R s W A n xs := ReadsRow.imp_ h hb (fun _ _ h => h)
instance : ElT k40 40 := inferInstance
instance tg_el {α : Type} {k : Kd α} {w : World} {e : Nat} [h : ElT k e] : ElT (tg k w) e := ⟨h.out⟩
theorem lit0 {α : Type} (k : Kd α) {e : Nat} {W w0 : World} {g : Nat} (h : BlkL W g #[] e) (hg : w0.heap.size ≤ g) : FrL k e W w0.heap.size Any (some ⟨g, 0, none⟩) 0 0 ([] : List α) :=
  ⟨rfl, Nat.le_refl 0, ⟨fun _ _ => trivial, [], ⟨by simp, .inr ⟨g, 0, #[], rfl, hg, h.out, Nat.le_refl 0, by simp [maxLen], by simp, by simp⟩⟩, Reps.none _ _⟩⟩
set_option maxHeartbeats 2000000 in
theorem cloneMsg_ {A : Option Addr} {n c : Nat} {l : List S126} {w0 w : World} [h : Sr k126 w0 A n c l] [hw : Bel w0 w] (hn : n ≤ 100000) :
    Calls Tryz.prog 159 #[.slice A n c] w fun e w' => ∃ A' c', e = .returned (.slice A' n c') ∧ FrL (tg k126 w0) 126 w' w.heap.size (Under w'.heap.size) A' n c' (l.map fun x => (false, x)) ∧ BelL w w' := by
  have HS := sr_l h
  have HL := Aside0.mk h.len
  have HC := Aside0.mk (tg_C h.C)
  cases A with
  | none =>
    have hl : l = [] := by
      cases l with
      | nil => rfl
      | cons x xs => obtain ⟨ad, e, _⟩ := h.C.2.2 (by have := h.len; simp at this; omega); cases e
    subst hl
    have h0 : n = 0 := h.len.symm
    subst h0
    clear h HS
    have hnil := fun w => Lib.run_eql_slice_nil (P := Tryz.prog) w 59 126 none 0 c 0 0 Tryz.underlying59
    go_enter Tryz.func159, Tryz.ntmps159
    go_wp2
    go_ret
    exact ⟨_, _, rfl, frl_nil, belL⟩
  | some A =>
    clear h HS
    have hnil := fun w => Lib.run_eql_slice_nil (P := Tryz.prog) w 59 126 (some A) n c 0 0 Tryz.underlying59
    go_enter Tryz.func159, Tryz.ntmps159
    go_wp2_with (first | ((with_reducible refine gate_dst (N := 5) rfl ?_); refine lit_tc ?hg (N := 5) ?hd (cs := #[]) (t := 126) (m := 0) ?hr ?_; (case hd => rfl); (case hg => rfl); (case hr => first | (go_simp; done) | (go_simp; rfl)); intro g1 wg1 _ _ _) | ((with_reducible refine gate_builtin (b := .append) (xs := #[.tmp 5, .tmp 6]) rfl ?_); (refine app_gen (k := tg k126 w0) (e := 126) (b := w.heap.size) (S := Any) (A := some ⟨g1, 0, none⟩) (n := 0) (c := 0) (xs := []) (B := some A) (m := n) (d := c) (ys := l.map fun x => (false, x)) (t := 59) (okp := fun _ => False) (Rr := fun x cs => x.1 = false ∧ k126.K w0 x.2 cs) (by rfl) (by rfl) Tryz.underlying59 (by rfl) (by rfl) inferInstance (fr_here (h := lit0 (tg k126 w0) (w0 := w) (by assumption) GE.out)) (reads_below HC.out Bel.out) (fun x cs hx => by rcases x with ⟨_ | _, x⟩; exact hx.2; exact Bool.noConfusion hx.1) (fun _ h => h.elim) LeB.out (by omega) ?_); intro A9 c9 w9 hF9 hb9 hg9))
    go_ret
    exact ⟨_, _, rfl, frl_eq (n' := 0 + n) (Nat.zero_add n) rfl, belL⟩
set_option maxHeartbeats 2000000 in
theorem cloneNode_ {A : Option Addr} {n c : Nat} {l : List S40} {w0 w : World} [h : Sr k40 w0 A n c l] [hw : Bel w0 w] (hn : n ≤ 100000) :
    Calls Tryz.prog 117 #[.slice A n c] w fun e w' => ∃ A' c', e = .returned (.slice A' n c') ∧ FrL (tg k40 w0) 40 w' w.heap.size (Under w'.heap.size) A' n c' (l.map fun x => (false, x)) ∧ BelL w w' := by
  have HS := sr_l h
  have HL := Aside0.mk h.len
  have HC := Aside0.mk (tg_C h.C)
  cases A with
  | none =>
    have hl : l = [] := by
      cases l with
      | nil => rfl
      | cons x xs => obtain ⟨ad, e, _⟩ := h.C.2.2 (by have := h.len; simp at this; omega); cases e
    subst hl
    have h0 : n = 0 := h.len.symm
    subst h0
    clear h HS
    have hnil := fun w => Lib.run_eql_slice_nil (P := Tryz.prog) w 57 40 none 0 c 0 0 Tryz.underlying57
    go_enter Tryz.func117, Tryz.ntmps117
    go_wp2
    go_ret
    exact ⟨_, _, rfl, frl_nil, belL⟩
  | some A =>
    clear h HS
    have hnil := fun w => Lib.run_eql_slice_nil (P := Tryz.prog) w 57 40 (some A) n c 0 0 Tryz.underlying57
    go_enter Tryz.func117, Tryz.ntmps117
    go_wp2_with (first | ((with_reducible refine gate_dst (N := 5) rfl ?_); refine lit_tc ?hg (N := 5) ?hd (cs := #[]) (t := 40) (m := 0) ?hr ?_; (case hd => rfl); (case hg => rfl); (case hr => first | (go_simp; done) | (go_simp; rfl)); intro g1 wg1 _ _ _) | ((with_reducible refine gate_builtin (b := .append) (xs := #[.tmp 5, .tmp 6]) rfl ?_); (refine app_gen (k := tg k40 w0) (e := 40) (b := w.heap.size) (S := Any) (A := some ⟨g1, 0, none⟩) (n := 0) (c := 0) (xs := []) (B := some A) (m := n) (d := c) (ys := l.map fun x => (false, x)) (t := 57) (okp := fun _ => False) (Rr := fun x cs => x.1 = false ∧ k40.K w0 x.2 cs) (by rfl) (by rfl) Tryz.underlying57 (by rfl) (by rfl) inferInstance (fr_here (h := lit0 (tg k40 w0) (w0 := w) (by assumption) GE.out)) (reads_below HC.out Bel.out) (fun x cs hx => by rcases x with ⟨_ | _, x⟩; exact hx.2; exact Bool.noConfusion hx.1) (fun _ h => h.elim) LeB.out (by omega) ?_); intro A9 c9 w9 hF9 hb9 hg9))
    go_ret
    exact ⟨_, _, rfl, frl_eq (n' := 0 + n) (Nat.zero_add n) rfl, belL⟩
end Go.Proofs.YtljipbmmgcccnaaGreat.T
end
section
namespace Go.Proofs.YtljipbmmgcccnaaGreat.T
open Go.RowKit Go.Proofs.YtljipbmmgcccnaaGreatW.PrintWords Go.Proofs.YtljipbmmgcccnaaGreatW.PrintLast Go.Proofs.YtljipbmmgcccnaaGreatW.PrintMore
attribute [local go_sem] cell_tc frozen_tc max2_int min2_int
attribute [local go_sem ↓] Go.wp_at_zero Go.wp_at_succ
set_option linter.unusedVariables false
set_option linter.unusedSimpArgs false
set_option synthInstance.maxHeartbeats 400000
set_option synthInstance.maxSize 512
attribute [local go_sem] cell_tc2 frozen_row
theorem tg_at {α : Type} {k : Kd α} {w0 W : World} {e b : Nat} {S : Nat → Prop} {g n c : Nat} {l : List (Bool × α)} (h : Fr (tg k w0) e W b S (some ⟨g, 0, none⟩) n c l) (i : Nat) (hi : i < l.length) :
    ∃ cs : List Value, cs.length = k.sz ∧ (tg k w0).K W l[i] cs ∧ ∀ j u, cs[j]? = some u → W.cell? ⟨g, i * k.sz + j, none⟩ = some u := by
  have hq : Sr (tg k w0) W (some ⟨g, 0, none⟩) n c l := sr_fr
  obtain ⟨ad, e, hc⟩ := hq.C.2.2 (by have := h.len; omega)
  obtain rfl := Option.some.inj e
  obtain ⟨cs, h1, h2, h3⟩ := hc i l[i] (List.getElem?_eq_getElem hi)
  refine ⟨cs, h1, h2, fun j u hj => ?_⟩
  have := h3 j u hj
  rw [Addr.add_lit, Nat.zero_add] at this
  exact this
theorem msg_el {w0 W : World} {b : Nat} {S : Nat → Prop} {g n c : Nat} {l : List (Bool × S126)} {m : S126} (h : Fr (tg k126 w0) 126 W b S (some ⟨g, 0, none⟩) n c l) (i : Nat) (hi : i < l.length) (hf : l[i] = (false, m)) :
    ∃ A3 c3, CellL W ⟨g, i * 11 + 3, none⟩ (.slice A3 m.f3.length c3) ∧ SrL kI w0 A3 m.f3.length c3 m.f3 := by
  obtain ⟨cs, h1, h2, h3⟩ := tg_at h i hi
  rw [hf] at h2
  have h2' : k126.K w0 m cs := h2
  obtain ⟨A3, c3, rfl, hl, hC⟩ := k126_open h2'
  exact ⟨A3, c3, ⟨h3 3 _ rfl⟩, ⟨rfl, hl, hC⟩⟩
theorem msg_set {w0 W : World} {b b2 : Nat} {S S2 : Nat → Prop} {g n c n9 c9 : Nat} {A9 : Option Addr} {l : List (Bool × S126)} {m : S126} (h : Fr (tg k126 w0) 126 W b S (some ⟨g, 0, none⟩) n c l) (i : Nat) (hi : i < l.length) (hf : l[i] = (false, m))
    (hF : Fr kI 3 W b2 S2 A9 n9 c9 m.f3) (hb2 : b ≤ b2) (hg2 : g < b2) (hb : b ≤ W.heap.size) :
    FrL (tg k126 w0) 126 (W.setCell ⟨g, i * 11 + 3, none⟩ (.slice A9 n9 c9)) b Any (some ⟨g, 0, none⟩) n c (l.set i (true, m)) ∧ BbL b W (W.setCell ⟨g, i * 11 + 3, none⟩ (.slice A9 n9 c9)) := by
  have hl := h.len
  obtain ⟨cs, h1, h2, h3⟩ := tg_at h i hi
  rw [hf] at h2
  have h2' : k126.K w0 m cs := h2
  obtain ⟨A3, c3, rfl, hl3, hC⟩ := k126_open h2'
  have hn9 := hF.len
  subst hn9
  have hR9 : kI.R 3 W b (fun j => b2 ≤ j) (.slice A9 m.f3.length c9) m.f3 := Kd.R_mono (Kd.R_lower (Kd.R_bound hF.R) hb2) (fun j hj => hj.2.1)
  have hs := Kd.R_seg (d := tg k126 w0) (okp := fun j => b2 ≤ j) h.any (i : Int) (by omega) (by omega) (j := 3) (seg := [.slice A9 m.f3.length c9]) h1 (fun j u hj => h3 j u hj) (show 3 + 1 ≤ 11 by decide) (x' := (true, m))
    (show k126.M W b (fun j => b2 ≤ j) m _ from k126_mkM W b _ m hR9) (fun j hj => ⟨trivial, by omega⟩)
  have hg : b ≤ g := Kd.R_base h.any g rfl
  refine ⟨⟨by rw [List.length_set]; exact hl, h.le, hs.1⟩, ⟨hb, ?_⟩⟩
  have hgr := hs.2
  exact ⟨hgr.os, hgr.tape, hgr.output, hgr.size, fun k hk => hgr.block k (by omega) (fun e => by injection e with e; omega)⟩
instance lt_row {W : World} {g : Nat} [h : Row W g] : LtB g W.heap.size := ⟨by obtain ⟨a, b, e⟩ := h.out; exact blk_lt e⟩
def marks {α : Type} (xs : List α) (i : Nat) : List (Bool × α) := (xs.take i).map (fun x => (true, x)) ++ (xs.drop i).map (fun x => (false, x))
theorem marks_len {α : Type} (xs : List α) (i : Nat) : (marks xs i).length = xs.length := by unfold marks; simp; omega
theorem marks_zero {α : Type} (xs : List α) : marks xs 0 = xs.map fun x => (false, x) := by simp [marks]
theorem marks_all {α : Type} (xs : List α) : marks xs xs.length = xs.map fun x => (true, x) := by simp [marks]
theorem marks_at {α : Type} {xs : List α} {i : Nat} (h : i < xs.length) : (marks xs i)[i]'(by rw [marks_len]; exact h) = (false, xs[i]) := by
  unfold marks
  rw [List.getElem_append_right (by simp; omega)]
  simp [Nat.min_eq_left (Nat.le_of_lt h)]
theorem marks_next {α : Type} {xs : List α} {i : Nat} (h : i < xs.length) : (marks xs i).set i (true, xs[i]) = marks xs (i + 1) := by
  unfold marks
  have e1 : ((xs.take i).map fun x => (true, x)).length = i := by rw [List.length_map, List.length_take]; omega
  rw [List.set_append_right _ _ (by omega), e1, Nat.sub_self, List.drop_eq_getElem_cons h, List.map_cons, List.set_cons_zero, List.take_succ_eq_append_getElem h, List.map_append]
  simp
theorem frl_any {α : Type} {k : Kd α} {W : World} {A : Option Addr} {n c e b : Nat} {S : Nat → Prop} {xs : List α} (h : FrL k e W b S A n c xs) : FrL k e W b Any A n c xs := ⟨h.len, h.le, Kd.R_mono h.R (fun _ _ => trivial)⟩
theorem tg_nil {α : Type} {k : Kd α} {w0 W : World} {e b : Nat} {S : Nat → Prop} {A : Option Addr} {c : Nat} (h : Fr (tg k w0) e W b S A 0 c ([].map fun x => (false, x))) : Fr k e W b S A 0 c [] := ⟨rfl, h.le, by
  obtain ⟨h0, inner, ho, hr⟩ := h.R
  exact ⟨h0, inner, ho, hr.1, fun j p hj => by simp at hj⟩⟩
theorem frl_map {α : Type} {k : Kd α} {W : World} {A : Option Addr} {n c e b : Nat} {S : Nat → Prop} {xs : List α} (h : Fr k e W b S A n c xs) {b' : Nat} [l : LeB b' b] : FrL k e W b' (Under W.heap.size) A n c xs := frl (h := h)
def copyOk (ms : List S126) : Prop := ∀ m ∈ ms, m.f3.length ≤ 1000000
set_option maxRecDepth 100000 in
set_option maxHeartbeats 2000000 in
theorem queueCopy_ {A : Option Addr} {n c : Nat} {ms : List S126} {w : World} [h : Sr k126 w A n c ms] (hn : n ≤ 100000) (hm : copyOk ms) :
    Calls Tryz.prog 119 #[.slice A n c] w fun e w' => ∃ A' c', e = .returned (.slice A' n c') ∧ FrL k126 126 w' w.heap.size (Under w'.heap.size) A' n c' ms ∧ BelL w w' := by
  obtain rfl := h.len
  have HS := sr_l h
  have HM := Aside0.mk hm
  clear h hm
  by_cases h0 : ms.length = 0
  · obtain rfl : ms = [] := List.eq_nil_of_length_eq_zero h0
    clear h0
    go_enter Tryz.func119, Tryz.ntmps119
    go_wp2_with (first | (go_at_call 159; (with_reducible refine Calls.mono (cloneMsg_ (w0 := w) (n := 0) (l := []) (by omega)) ?_); rintro e w1 ⟨A1, c1, rfl, hF1, hb1⟩))
    go_loopg [4, 9] 0 (fun kq v4 v9 w' => v9 = .int .i64 0 ∧ BelL w1 w')
    case atStart => exact ⟨rfl, belL⟩
    case round =>
      obtain ⟨rfl, hbr⟩ := hrel
      go_wp2
      go_ret
      have hfr : Fr (tg k126 w) 126 _ w.heap.size (Under w1.heap.size) A1 0 c1 ([].map fun x => (false, x)) := fr_step (h := fr_here (h := hF1)) (g := hbr)
      exact ⟨_, _, rfl, frl_map (tg_nil hfr), belL⟩
  · go_enter Tryz.func119, Tryz.ntmps119
    go_wp2_with (first | (go_at_call 159; (with_reducible refine Calls.mono (cloneMsg_ (w0 := w) (by omega)) ?_); rintro e w1 ⟨A1, c1, rfl, hF1, hb1⟩; obtain ⟨gr, rfl, hrow, hgr⟩ := fr_form hF1 (by omega)))
    have hge : GEL w gr := ⟨hgr⟩
    go_loopg [4, 9] ms.length (fun kq v4 v9 w' => ∃ i : Nat, v9 = .int .i64 i ∧ i ≤ ms.length ∧ kq = ms.length - i ∧ FrL (tg k126 w) 126 w' w.heap.size Any (some ⟨gr, 0, none⟩) ms.length c1 (marks ms i) ∧ BelL w w' ∧ RowL w' gr)
    case atStart => exact ⟨0, rfl, Nat.zero_le _, rfl, by rw [marks_zero]; exact frl_any hF1, belL, ⟨Row.out⟩⟩
    case round =>
      obtain ⟨i, rfl, hi, rfl, hF, hbr, hrow2⟩ := hrel
      by_cases hlt : i < ms.length
      · have hlm : i < (marks ms i).length := by rw [marks_len]; exact hlt
        have hma := marks_at hlt
        obtain ⟨A3, c3, hc3, hs3⟩ := msg_el (fr_here (h := hF)) i hlm hma
        have hm3 : ms[i].f3.length ≤ 1000000 := HM.out _ (List.getElem_mem hlt)
        have HF := Aside0.mk hF
        have HMA := Aside0.mk hma
        have HMN := Aside0.mk (marks_next hlt)
        have HLM := Aside0.mk hlm
        clear hma hlm
        go_wp2_with (first | (go_at_call 50; (with_reducible refine Calls.mono (cloneInt_ hm3) ?_); rintro e w9 ⟨A9, c9, rfl, hF9, hb9⟩))
        have HW := Aside0.mk (msg_set (W := w9) (b := w.heap.size) (S := Any) (fr_step (h := fr_here (h := HF.out)) (g := inferInstance)) i HLM.out HMA.out (fr_here (h := hF9)) (LeB.out) (LtB.out) LeB.out)
        go_roundg (ms.length - (i + 1))
        case measure => omega
        case rel => exact ⟨i + 1, by go_num, by omega, rfl, by rw [← HMN.out]; exact HW.out.1, belL, ⟨Row.out⟩⟩
      · obtain rfl : i = ms.length := by omega
        rw [marks_all] at hF
        have hF3 : FrL k126 126 wr w.heap.size Any (some ⟨gr, 0, none⟩) ms.length c1 ms := ⟨rfl, hF.le, tg_done hF.R⟩
        clear hF
        go_wp2
        go_ret
        exact ⟨_, _, rfl, frl, belL⟩
end Go.Proofs.YtljipbmmgcccnaaGreat.T
end
section
namespace Go.Proofs.YtljipbmmgcccnaaGreat.T
open Go.RowKit Go.Proofs.YtljipbmmgcccnaaGreatW.PrintWords Go.Proofs.YtljipbmmgcccnaaGreatW.PrintLast Go.Proofs.YtljipbmmgcccnaaGreatW.PrintMore
attribute [local go_sem] cell_tc frozen_tc max2_int min2_int
attribute [local go_sem ↓] Go.wp_at_zero Go.wp_at_succ
set_option linter.unusedVariables false
set_option linter.unusedSimpArgs false
set_option synthInstance.maxHeartbeats 400000
set_option synthInstance.maxSize 512
attribute [local go_sem] cell_tc2
theorem msgOdd_ {mk mf mt my ik ic ix iv : Int} {ig mh : Bool} {A : Option Addr} {n c : Nat} {ids : List Int} {w : World} [h : Sr kI w A n c ids] : Calls Tryz.prog 143 #[.agg #[.int .i64 mk, .int .i64 mf, .int .i64 mt, .slice A n c, .int .i64 my, .int .i64 ik, .int .i64 ic, .int .i64 ix, .int .i64 iv, .bool ig, .bool mh]] w fun e w' => e = .returned (.bool (!msgB ⟨mk, mf, mt, ids, my, ⟨ik, ⟨ic, ix⟩, iv, ig⟩, mh⟩)) ∧ BelL w w' := by
  obtain rfl := h.len
  have hs := sr_l h
  clear h
  go_enter Tryz.func143, Tryz.ntmps143
  go_wp2_with (first | (with_reducible refine gate_dst (N := 1) rfl ?_; refine box_tc rfl (N := 1) rfl (cs := #[.int .i64 mk, .int .i64 mf, .int .i64 mt, .slice A ids.length c, .int .i64 my, .int .i64 ik, .int .i64 ic, .int .i64 ix, .int .i64 iv, .bool ig, .bool mh]) (t := 126) ?hr ?_; (case hr => first | (go_simp; done) | (go_simp; rfl)); intro g1 wg1 _ _ _) | (go_at_call 144; (with_reducible refine Calls.mono (msgMay_) ?_); rintro e wb ⟨rfl, hb⟩))
  go_ret
  exact ⟨rfl, belL⟩
def badMsgs (l : List S126) : Bool := l.any fun m => !msgB m
def toldB (x : S77) : Bool := placeB x.f0 && placeB x.f2 && (x.f1 || x.f2 == 0)
def badTolds (l : List S77) : Bool := l.any fun x => !toldB x
theorem odd_ {a v : Int} {g : Bool} {w : World} : Calls Tryz.prog 152 #[.agg #[.int .i64 a, .bool g, .int .i64 v]] w fun e w' => e = .returned (.bool (!toldB ⟨a, g, v⟩)) ∧ BelL w w' := by
  cases h1 : placeB a
  · rw [show toldB ⟨a, g, v⟩ = false by simp [toldB, h1]]
    go_enter Tryz.func152, Tryz.ntmps152
    go_wp2_with (first | (with_reducible refine gate_dst (N := 1) rfl ?_; refine box_tc rfl (N := 1) rfl (cs := #[.int .i64 a, .bool g, .int .i64 v]) (t := 77) ?hr ?_; (case hr => first | (go_simp; done) | (go_simp; rfl)); intro g1 wg1 _ _ _) | (go_at_call 106; (with_reducible refine Calls.mono (byte _ _) ?_); rintro e w' ⟨rfl, ⟨nd, rfl⟩⟩))
    go_ret
    exact ⟨rfl, belL⟩
  · cases h2 : placeB v
    · rw [show toldB ⟨a, g, v⟩ = false by simp [toldB, h2]]
      go_enter Tryz.func152, Tryz.ntmps152
      go_wp2_with (first | (with_reducible refine gate_dst (N := 1) rfl ?_; refine box_tc rfl (N := 1) rfl (cs := #[.int .i64 a, .bool g, .int .i64 v]) (t := 77) ?hr ?_; (case hr => first | (go_simp; done) | (go_simp; rfl)); intro g1 wg1 _ _ _) | (go_at_call 106; (with_reducible refine Calls.mono (byte _ _) ?_); rintro e w' ⟨rfl, ⟨nd, rfl⟩⟩))
      go_ret
      exact ⟨rfl, belL⟩
    · cases g
      · rw [show toldB ⟨a, false, v⟩ = (v == 0) by simp [toldB, h1, h2]]
        go_enter Tryz.func152, Tryz.ntmps152
        go_wp2_with (first | (with_reducible refine gate_dst (N := 1) rfl ?_; refine box_tc rfl (N := 1) rfl (cs := #[.int .i64 a, .bool false, .int .i64 v]) (t := 77) ?hr ?_; (case hr => first | (go_simp; done) | (go_simp; rfl)); intro g1 wg1 _ _ _) | (go_at_call 106; (with_reducible refine Calls.mono (byte _ _) ?_); rintro e w' ⟨rfl, ⟨nd, rfl⟩⟩))
        go_ret
        exact ⟨rfl, belL⟩
      · rw [show toldB ⟨a, true, v⟩ = true by simp [toldB, h1, h2]]
        go_enter Tryz.func152, Tryz.ntmps152
        go_wp2_with (first | (with_reducible refine gate_dst (N := 1) rfl ?_; refine box_tc rfl (N := 1) rfl (cs := #[.int .i64 a, .bool true, .int .i64 v]) (t := 77) ?hr ?_; (case hr => first | (go_simp; done) | (go_simp; rfl)); intro g1 wg1 _ _ _) | (go_at_call 106; (with_reducible refine Calls.mono (byte _ _) ?_); rintro e w' ⟨rfl, ⟨nd, rfl⟩⟩))
        go_ret
        exact ⟨rfl, belL⟩
set_option maxHeartbeats 2000000 in
theorem badMsgIdx_  {A : Option Addr} {n c : Nat} {l : List S126} {w : World} [h : Sr k126 w A n c l]  :
    Calls Tryz.prog 181 #[.slice A n c, .func (.func 143) #[] #[]] w fun e w' => ∃ q : Int, e = .returned (.int .i64 q) ∧ decide (0 ≤ q) = l.any (fun m => !msgB m) ∧ BelL w w' := by
  obtain rfl := h.len
  have HS := sr_l h
  have hlen : l.length ≤ 9223372036854775807 := h.C.2.1
  clear h
  go_enter Tryz.func181, Tryz.ntmps181
  go_wp2
  go_loopg [5, 8] l.length (fun kq v5 v8 w' => ∃ i : Nat, v8 = .int .i64 i ∧ i ≤ l.length ∧ kq = l.length - i ∧ Aside0 (∀ j (h : j < l.length), j < i → (fun m => !msgB m) l[j] = false) ∧ BelL w w')
  case atStart => exact ⟨0, rfl, Nat.zero_le _, rfl, ⟨fun j h hj => absurd hj (Nat.not_lt_zero _)⟩, belL⟩
  case round =>
    obtain ⟨i, rfl, hi, rfl, HA, hbr⟩ := hrel
    by_cases hlt : i < l.length
    · obtain ⟨ad, A3, c3, rfl, hx0, hx1, hx2, hx3, hx4, hx5, hx6, hx7, hx8, hx9, hx10, hs3⟩ := el_T126 (W := wr) (A := A) (n := l.length) (c := c) (l := l) i hlt
      cases hpi : (fun m => !msgB m) l[i]
      · have HPI := Aside0.mk hpi
        go_wp2_with (first | (go_at_call 143; (with_reducible refine Calls.mono msgOdd_ ?_); rintro e w5 ⟨rfl, hb⟩; rw [show (!msgB ⟨l[i].f0, l[i].f1, l[i].f2, l[i].f3, l[i].f4, ⟨l[i].f5.f0, ⟨l[i].f5.f1.f0, l[i].f5.f1.f1⟩, l[i].f5.f2, l[i].f5.f3⟩, l[i].f6⟩) = _ from hpi]))
        go_roundg (l.length - (i + 1))
        case measure => omega
        case rel =>
          exact ⟨i + 1, by go_num, by omega, rfl, ⟨fun j h hj => by
            rcases Nat.lt_or_eq_of_le (Nat.le_of_lt_succ hj) with h2 | h2
            · exact HA.out j h h2
            · subst h2; exact HPI.out⟩, belL⟩
      · have HT := Aside0.mk (show l.any (fun m => !msgB m) = true from List.any_eq_true.2 ⟨l[i], List.getElem_mem hlt, hpi⟩)
        go_wp2_with (first | (go_at_call 143; (with_reducible refine Calls.mono msgOdd_ ?_); rintro e w5 ⟨rfl, hb⟩; rw [show (!msgB ⟨l[i].f0, l[i].f1, l[i].f2, l[i].f3, l[i].f4, ⟨l[i].f5.f0, ⟨l[i].f5.f1.f0, l[i].f5.f1.f1⟩, l[i].f5.f2, l[i].f5.f3⟩, l[i].f6⟩) = _ from hpi]))
        go_ret
        exact ⟨(i : Int), rfl, by rw [HT.out]; exact decide_eq_true (by omega), belL⟩
    · have HT := Aside0.mk (show l.any (fun m => !msgB m) = false by
        rw [List.any_eq_false]
        intro x hx
        obtain ⟨j, hj, rfl⟩ := List.getElem_of_mem hx
        have := HA.out j hj (by omega)
        exact fun hh => Bool.false_ne_true (this.symm.trans hh))
      go_wp2
      go_ret
      exact ⟨-1, rfl, by rw [HT.out]; rfl, belL⟩
theorem badMsg_  {A : Option Addr} {n c : Nat} {l : List S126} {w : World} [h : Sr k126 w A n c l]  :
    Calls Tryz.prog 145 #[.slice A n c, .func (.func 143) #[] #[]] w fun e w' => e = .returned (.bool (badMsgs l)) ∧ BelL w w' := by
  have HC := Aside0.mk (@badMsgIdx_  A n c l w h )
  clear h
  go_enter Tryz.func145, Tryz.ntmps145
  go_wp2_with (first | (go_at_call 181; (with_reducible refine Calls.mono HC.out ?_); rintro e wb ⟨q, rfl, hk, hb⟩; have HK := Aside0.mk hk; clear hk))
  go_ret
  exact ⟨by rw [show badMsgs l = decide (0 ≤ q) from HK.out.symm]; rfl, belL⟩
set_option maxHeartbeats 2000000 in
theorem badToldIdx_  {A : Option Addr} {n c : Nat} {l : List S77} {w : World} [h : Sr k77 w A n c l]  :
    Calls Tryz.prog 183 #[.slice A n c, .func (.func 152) #[] #[]] w fun e w' => ∃ q : Int, e = .returned (.int .i64 q) ∧ decide (0 ≤ q) = l.any (fun x => !toldB x) ∧ BelL w w' := by
  obtain rfl := h.len
  have HS := sr_l h
  have hlen : l.length ≤ 9223372036854775807 := h.C.2.1
  clear h
  go_enter Tryz.func183, Tryz.ntmps183
  go_wp2
  go_loopg [5, 8] l.length (fun kq v5 v8 w' => ∃ i : Nat, v8 = .int .i64 i ∧ i ≤ l.length ∧ kq = l.length - i ∧ Aside0 (∀ j (h : j < l.length), j < i → (fun x => !toldB x) l[j] = false) ∧ BelL w w')
  case atStart => exact ⟨0, rfl, Nat.zero_le _, rfl, ⟨fun j h hj => absurd hj (Nat.not_lt_zero _)⟩, belL⟩
  case round =>
    obtain ⟨i, rfl, hi, rfl, HA, hbr⟩ := hrel
    by_cases hlt : i < l.length
    · obtain ⟨ad, rfl, hx0, hx1, hx2⟩ := el_T77 (W := wr) (A := A) (n := l.length) (c := c) (l := l) i hlt
      cases hpi : (fun x => !toldB x) l[i]
      · have HPI := Aside0.mk hpi
        go_wp2_with (first | (go_at_call 152; (with_reducible refine Calls.mono odd_ ?_); rintro e w5 ⟨rfl, hb⟩; rw [show (!toldB ⟨l[i].f0, l[i].f1, l[i].f2⟩) = _ from hpi]))
        go_roundg (l.length - (i + 1))
        case measure => omega
        case rel =>
          exact ⟨i + 1, by go_num, by omega, rfl, ⟨fun j h hj => by
            rcases Nat.lt_or_eq_of_le (Nat.le_of_lt_succ hj) with h2 | h2
            · exact HA.out j h h2
            · subst h2; exact HPI.out⟩, belL⟩
      · have HT := Aside0.mk (show l.any (fun x => !toldB x) = true from List.any_eq_true.2 ⟨l[i], List.getElem_mem hlt, hpi⟩)
        go_wp2_with (first | (go_at_call 152; (with_reducible refine Calls.mono odd_ ?_); rintro e w5 ⟨rfl, hb⟩; rw [show (!toldB ⟨l[i].f0, l[i].f1, l[i].f2⟩) = _ from hpi]))
        go_ret
        exact ⟨(i : Int), rfl, by rw [HT.out]; exact decide_eq_true (by omega), belL⟩
    · have HT := Aside0.mk (show l.any (fun x => !toldB x) = false by
        rw [List.any_eq_false]
        intro x hx
        obtain ⟨j, hj, rfl⟩ := List.getElem_of_mem hx
        have := HA.out j hj (by omega)
        exact fun hh => Bool.false_ne_true (this.symm.trans hh))
      go_wp2
      go_ret
      exact ⟨-1, rfl, by rw [HT.out]; rfl, belL⟩
theorem badTold_  {A : Option Addr} {n c : Nat} {l : List S77} {w : World} [h : Sr k77 w A n c l]  :
    Calls Tryz.prog 151 #[.slice A n c, .func (.func 152) #[] #[]] w fun e w' => e = .returned (.bool (badTolds l)) ∧ BelL w w' := by
  have HC := Aside0.mk (@badToldIdx_  A n c l w h )
  clear h
  go_enter Tryz.func151, Tryz.ntmps151
  go_wp2_with (first | (go_at_call 183; (with_reducible refine Calls.mono HC.out ?_); rintro e wb ⟨q, rfl, hk, hb⟩; have HK := Aside0.mk hk; clear hk))
  go_ret
  exact ⟨by rw [show badTolds l = decide (0 ≤ q) from HK.out.symm]; rfl, belL⟩
def queueB (l : List S126) : Bool := decide (l.length ≤ 512) && !badMsgs l
theorem queueMay_ {A : Option Addr} {n c : Nat} {l : List S126} {w : World} [h : Sr k126 w A n c l] :
    Calls Tryz.prog 92 #[.slice A n c] w fun e w' => e = .returned (.bool (queueB l)) ∧ BelL w w' := by
  obtain rfl := h.len
  have hs := sr_l h
  clear h
  by_cases h1 : l.length ≤ 512
  · rw [show queueB l = !badMsgs l by simp [queueB, h1]]
    have h2 : decide ((l.length : Int) ≤ 512) = true := decide_eq_true (by omega)
    clear h1
    go_enter Tryz.func92, Tryz.ntmps92
    go_wp2_with (first | (go_at_call 145; (with_reducible refine Calls.mono (badMsg_) ?_); rintro e wb ⟨rfl, hb⟩))
    go_ret
    exact ⟨rfl, belL⟩
  · rw [show queueB l = false by simp [queueB, h1]]
    have h2 : decide ((l.length : Int) ≤ 512) = false := decide_eq_false (by omega)
    clear h1
    go_enter Tryz.func92, Tryz.ntmps92
    go_wp2_with (first | (go_at_call 145; (with_reducible refine Calls.mono (badMsg_) ?_); rintro e wb ⟨rfl, hb⟩))
    go_ret
    exact ⟨rfl, belL⟩
end Go.Proofs.YtljipbmmgcccnaaGreat.T
end
section
namespace Go.Proofs.YtljipbmmgcccnaaGreat.T
open Go.RowKit Go.Proofs.YtljipbmmgcccnaaGreatW.PrintWords Go.Proofs.YtljipbmmgcccnaaGreatW.PrintLast Go.Proofs.YtljipbmmgcccnaaGreatW.PrintMore
attribute [local go_sem] cell_tc frozen_tc max2_int min2_int
attribute [local go_sem ↓] Go.wp_at_zero Go.wp_at_succ
set_option linter.unusedVariables false
set_option linter.unusedSimpArgs false
set_option synthInstance.maxHeartbeats 400000
set_option synthInstance.maxSize 512
attribute [local go_sem] cell_tc2
def nodeB (x : S40) : Bool :=
  (x.f0 || decide (x.f1.f1.length + x.f1.f2.length + x.f2.length + x.f3.length = 0)) && viewB x.f1.f0 x.f1.f1 x.f1.f2 && storeB x.f2 && decide (x.f3.length ≤ 64) && !badTolds x.f3
theorem badTold2_ {A : Option Addr} {n c : Nat} {l : List S77} {w : World} [h : Sr k77 w A n c l] :
    Calls Tryz.prog 151 #[.slice A n c, .func (.func 152) #[] #[]] w fun e w' => e = .returned (.bool (badTolds l)) ∧ BelL w w' := badTold_
set_option maxHeartbeats 1000000 in
theorem nodeMay_vu {id : Int} {A B I L : Option Addr} {n c m d ni ci nl cl : Nat} {ps : List S98} {xs : List Int} {is : List S48} {ls : List S77} {w : World} [h1 : Sr k98 w A n c ps] [h2 : Sr kI w B m d xs] [h3 : Sr k48 w I ni ci is] [h4 : Sr k77 w L nl cl ls]  (p : viewB id ps xs = false) :
    Calls Tryz.prog 108 #[.agg #[.bool true, .int .i64 id, .slice A n c, .slice B m d, .slice I ni ci, .slice L nl cl]] w fun e w' => e = .returned (.bool (nodeB ⟨true, ⟨id, ps, xs⟩, is, ls⟩)) ∧ BelL w w' := by
  obtain rfl := h1.len
  obtain rfl := h2.len
  obtain rfl := h3.len
  obtain rfl := h4.len
  have s1 := sr_l h1
  have s2 := sr_l h2
  have s3 := sr_l h3
  have s4 := sr_l h4
  have l1 := h1.C.2.1
  have l2 := h2.C.2.1
  have l3 := h3.C.2.1
  have l4 := h4.C.2.1
  clear h1 h2 h3 h4
  rw [show nodeB ⟨true, ⟨id, ps, xs⟩, is, ls⟩ = false by simp [nodeB, p]]
  skip
  go_enter Tryz.func108, Tryz.ntmps108
  go_wp2_with (first | (with_reducible refine gate_dst (N := 1) rfl ?_; refine box_tc rfl (N := 1) rfl (cs := #[.bool true, .int .i64 id, .slice A ps.length c, .slice B xs.length d, .slice I is.length ci, .slice L ls.length cl]) (t := 40) ?hr ?_; (case hr => first | (go_simp; done) | (go_simp; rfl)); intro g1 wg1 _ _ _) | (go_at_call 34; (with_reducible refine Calls.mono (viewMay_) ?_); rintro e wb ⟨rfl, hb⟩) | (go_at_call 53; (with_reducible refine Calls.mono (storeMay_) ?_); rintro e wb ⟨rfl, hb⟩) | (go_at_call 151; (with_reducible refine Calls.mono (badTold2_) ?_); rintro e wb ⟨rfl, hb⟩))
  go_ret
  exact ⟨rfl, belL⟩
set_option maxHeartbeats 1000000 in
theorem nodeMay_su {id : Int} {A B I L : Option Addr} {n c m d ni ci nl cl : Nat} {ps : List S98} {xs : List Int} {is : List S48} {ls : List S77} {w : World} [h1 : Sr k98 w A n c ps] [h2 : Sr kI w B m d xs] [h3 : Sr k48 w I ni ci is] [h4 : Sr k77 w L nl cl ls]  (p : viewB id ps xs = true) (q : storeB is = false) :
    Calls Tryz.prog 108 #[.agg #[.bool true, .int .i64 id, .slice A n c, .slice B m d, .slice I ni ci, .slice L nl cl]] w fun e w' => e = .returned (.bool (nodeB ⟨true, ⟨id, ps, xs⟩, is, ls⟩)) ∧ BelL w w' := by
  obtain rfl := h1.len
  obtain rfl := h2.len
  obtain rfl := h3.len
  obtain rfl := h4.len
  have s1 := sr_l h1
  have s2 := sr_l h2
  have s3 := sr_l h3
  have s4 := sr_l h4
  have l1 := h1.C.2.1
  have l2 := h2.C.2.1
  have l3 := h3.C.2.1
  have l4 := h4.C.2.1
  clear h1 h2 h3 h4
  rw [show nodeB ⟨true, ⟨id, ps, xs⟩, is, ls⟩ = false by simp [nodeB, q]]
  skip
  go_enter Tryz.func108, Tryz.ntmps108
  go_wp2_with (first | (with_reducible refine gate_dst (N := 1) rfl ?_; refine box_tc rfl (N := 1) rfl (cs := #[.bool true, .int .i64 id, .slice A ps.length c, .slice B xs.length d, .slice I is.length ci, .slice L ls.length cl]) (t := 40) ?hr ?_; (case hr => first | (go_simp; done) | (go_simp; rfl)); intro g1 wg1 _ _ _) | (go_at_call 34; (with_reducible refine Calls.mono (viewMay_) ?_); rintro e wb ⟨rfl, hb⟩) | (go_at_call 53; (with_reducible refine Calls.mono (storeMay_) ?_); rintro e wb ⟨rfl, hb⟩) | (go_at_call 151; (with_reducible refine Calls.mono (badTold2_) ?_); rintro e wb ⟨rfl, hb⟩))
  go_ret
  exact ⟨rfl, belL⟩
set_option maxHeartbeats 1000000 in
theorem nodeMay_lu {id : Int} {A B I L : Option Addr} {n c m d ni ci nl cl : Nat} {ps : List S98} {xs : List Int} {is : List S48} {ls : List S77} {w : World} [h1 : Sr k98 w A n c ps] [h2 : Sr kI w B m d xs] [h3 : Sr k48 w I ni ci is] [h4 : Sr k77 w L nl cl ls]  (p : viewB id ps xs = true) (q : storeB is = true) (r : ¬ nl ≤ 64) :
    Calls Tryz.prog 108 #[.agg #[.bool true, .int .i64 id, .slice A n c, .slice B m d, .slice I ni ci, .slice L nl cl]] w fun e w' => e = .returned (.bool (nodeB ⟨true, ⟨id, ps, xs⟩, is, ls⟩)) ∧ BelL w w' := by
  obtain rfl := h1.len
  obtain rfl := h2.len
  obtain rfl := h3.len
  obtain rfl := h4.len
  have s1 := sr_l h1
  have s2 := sr_l h2
  have s3 := sr_l h3
  have s4 := sr_l h4
  have l1 := h1.C.2.1
  have l2 := h2.C.2.1
  have l3 := h3.C.2.1
  have l4 := h4.C.2.1
  clear h1 h2 h3 h4
  rw [show nodeB ⟨true, ⟨id, ps, xs⟩, is, ls⟩ = false by simp [nodeB, r]]
  skip
  have r1 : decide ((ls.length : Int) ≤ 64) = false := decide_eq_false (by omega)
  clear r
  go_enter Tryz.func108, Tryz.ntmps108
  go_wp2_with (first | (with_reducible refine gate_dst (N := 1) rfl ?_; refine box_tc rfl (N := 1) rfl (cs := #[.bool true, .int .i64 id, .slice A ps.length c, .slice B xs.length d, .slice I is.length ci, .slice L ls.length cl]) (t := 40) ?hr ?_; (case hr => first | (go_simp; done) | (go_simp; rfl)); intro g1 wg1 _ _ _) | (go_at_call 34; (with_reducible refine Calls.mono (viewMay_) ?_); rintro e wb ⟨rfl, hb⟩) | (go_at_call 53; (with_reducible refine Calls.mono (storeMay_) ?_); rintro e wb ⟨rfl, hb⟩) | (go_at_call 151; (with_reducible refine Calls.mono (badTold2_) ?_); rintro e wb ⟨rfl, hb⟩))
  go_ret
  exact ⟨rfl, belL⟩
set_option maxHeartbeats 1000000 in
theorem nodeMay_tu {id : Int} {A B I L : Option Addr} {n c m d ni ci nl cl : Nat} {ps : List S98} {xs : List Int} {is : List S48} {ls : List S77} {w : World} [h1 : Sr k98 w A n c ps] [h2 : Sr kI w B m d xs] [h3 : Sr k48 w I ni ci is] [h4 : Sr k77 w L nl cl ls]  (p : viewB id ps xs = true) (q : storeB is = true) (r : nl ≤ 64) :
    Calls Tryz.prog 108 #[.agg #[.bool true, .int .i64 id, .slice A n c, .slice B m d, .slice I ni ci, .slice L nl cl]] w fun e w' => e = .returned (.bool (nodeB ⟨true, ⟨id, ps, xs⟩, is, ls⟩)) ∧ BelL w w' := by
  obtain rfl := h1.len
  obtain rfl := h2.len
  obtain rfl := h3.len
  obtain rfl := h4.len
  have s1 := sr_l h1
  have s2 := sr_l h2
  have s3 := sr_l h3
  have s4 := sr_l h4
  have l1 := h1.C.2.1
  have l2 := h2.C.2.1
  have l3 := h3.C.2.1
  have l4 := h4.C.2.1
  clear h1 h2 h3 h4
  rw [show nodeB ⟨true, ⟨id, ps, xs⟩, is, ls⟩ = !badTolds ls by simp [nodeB, p, q, r]]
  skip
  have r1 : decide ((ls.length : Int) ≤ 64) = true := decide_eq_true (by omega)
  clear r
  go_enter Tryz.func108, Tryz.ntmps108
  go_wp2_with (first | (with_reducible refine gate_dst (N := 1) rfl ?_; refine box_tc rfl (N := 1) rfl (cs := #[.bool true, .int .i64 id, .slice A ps.length c, .slice B xs.length d, .slice I is.length ci, .slice L ls.length cl]) (t := 40) ?hr ?_; (case hr => first | (go_simp; done) | (go_simp; rfl)); intro g1 wg1 _ _ _) | (go_at_call 34; (with_reducible refine Calls.mono (viewMay_) ?_); rintro e wb ⟨rfl, hb⟩) | (go_at_call 53; (with_reducible refine Calls.mono (storeMay_) ?_); rintro e wb ⟨rfl, hb⟩) | (go_at_call 151; (with_reducible refine Calls.mono (badTold2_) ?_); rintro e wb ⟨rfl, hb⟩))
  go_ret
  exact ⟨rfl, belL⟩
set_option maxHeartbeats 1000000 in
theorem nodeMay_o {id : Int} {A B I L : Option Addr} {n c m d ni ci nl cl : Nat} {ps : List S98} {xs : List Int} {is : List S48} {ls : List S77} {w : World} [h1 : Sr k98 w A n c ps] [h2 : Sr kI w B m d xs] [h3 : Sr k48 w I ni ci is] [h4 : Sr k77 w L nl cl ls] (zz : ¬ ps.length + xs.length + is.length + ls.length = 0) (b1 : ps.length + xs.length + is.length + ls.length ≤ 1000000000000000) :
    Calls Tryz.prog 108 #[.agg #[.bool false, .int .i64 id, .slice A n c, .slice B m d, .slice I ni ci, .slice L nl cl]] w fun e w' => e = .returned (.bool (nodeB ⟨false, ⟨id, ps, xs⟩, is, ls⟩)) ∧ BelL w w' := by
  obtain rfl := h1.len
  obtain rfl := h2.len
  obtain rfl := h3.len
  obtain rfl := h4.len
  have s1 := sr_l h1
  have s2 := sr_l h2
  have s3 := sr_l h3
  have s4 := sr_l h4
  clear h1 h2 h3 h4
  rw [show nodeB ⟨false, ⟨id, ps, xs⟩, is, ls⟩ = false by simp only [nodeB, decide_eq_false zz]; rfl]
  have z1 : decide ((0 : Int) < (ps.length : Int) + (xs.length : Int) + (is.length : Int) + (ls.length : Int)) = true := decide_eq_true (by omega)
  go_enter Tryz.func108, Tryz.ntmps108
  go_wp2_with (first | (with_reducible refine gate_dst (N := 1) rfl ?_; refine box_tc rfl (N := 1) rfl (cs := #[.bool false, .int .i64 id, .slice A ps.length c, .slice B xs.length d, .slice I is.length ci, .slice L ls.length cl]) (t := 40) ?hr ?_; (case hr => first | (go_simp; done) | (go_simp; rfl)); intro g1 wg1 _ _ _) | (go_at_call 34; (with_reducible refine Calls.mono (viewMay_) ?_); rintro e wb ⟨rfl, hb⟩) | (go_at_call 53; (with_reducible refine Calls.mono (storeMay_) ?_); rintro e wb ⟨rfl, hb⟩) | (go_at_call 151; (with_reducible refine Calls.mono (badTold2_) ?_); rintro e wb ⟨rfl, hb⟩))
  go_ret
  exact ⟨rfl, belL⟩
set_option maxHeartbeats 1000000 in
theorem nodeMay_z {id : Int} {A B I L : Option Addr} {c d ci cl : Nat} {w : World} [h1 : Sr k98 w A 0 c []] [h2 : Sr kI w B 0 d []] [h3 : Sr k48 w I 0 ci []] [h4 : Sr k77 w L 0 cl []] :
    Calls Tryz.prog 108 #[.agg #[.bool false, .int .i64 id, .slice A 0 c, .slice B 0 d, .slice I 0 ci, .slice L 0 cl]] w fun e w' => e = .returned (.bool (nodeB ⟨false, ⟨id, [], []⟩, [], []⟩)) ∧ BelL w w' := by
  have s1 := sr_l h1
  have s2 := sr_l h2
  have s3 := sr_l h3
  have s4 := sr_l h4
  clear h1 h2 h3 h4
  have q : storeB [] = true := by rfl
  have b0 : badTolds [] = false := by rfl
  cases p : viewB id [] []
  · rw [show nodeB ⟨false, ⟨id, [], []⟩, [], []⟩ = false by simp [nodeB, p]]
    go_enter Tryz.func108, Tryz.ntmps108
    go_wp2_with (first | (with_reducible refine gate_dst (N := 1) rfl ?_; refine box_tc rfl (N := 1) rfl (cs := #[.bool false, .int .i64 id, .slice A 0 c, .slice B 0 d, .slice I 0 ci, .slice L 0 cl]) (t := 40) ?hr ?_; (case hr => first | (go_simp; done) | (go_simp; rfl)); intro g1 wg1 _ _ _) | (go_at_call 34; (with_reducible refine Calls.mono (viewMay_ (n := 0) (ps := []) (m := 0) (xs := [])) ?_); rintro e wb ⟨rfl, hb⟩) | (go_at_call 53; (with_reducible refine Calls.mono (storeMay_ (n := 0) (l := [])) ?_); rintro e wb ⟨rfl, hb⟩) | (go_at_call 151; (with_reducible refine Calls.mono (badTold2_ (n := 0) (l := [])) ?_); rintro e wb ⟨rfl, hb⟩))
    go_ret
    exact ⟨rfl, belL⟩
  · rw [show nodeB ⟨false, ⟨id, [], []⟩, [], []⟩ = true by simp [nodeB, p, q, b0]]
    go_enter Tryz.func108, Tryz.ntmps108
    go_wp2_with (first | (with_reducible refine gate_dst (N := 1) rfl ?_; refine box_tc rfl (N := 1) rfl (cs := #[.bool false, .int .i64 id, .slice A 0 c, .slice B 0 d, .slice I 0 ci, .slice L 0 cl]) (t := 40) ?hr ?_; (case hr => first | (go_simp; done) | (go_simp; rfl)); intro g1 wg1 _ _ _) | (go_at_call 34; (with_reducible refine Calls.mono (viewMay_ (n := 0) (ps := []) (m := 0) (xs := [])) ?_); rintro e wb ⟨rfl, hb⟩) | (go_at_call 53; (with_reducible refine Calls.mono (storeMay_ (n := 0) (l := [])) ?_); rintro e wb ⟨rfl, hb⟩) | (go_at_call 151; (with_reducible refine Calls.mono (badTold2_ (n := 0) (l := [])) ?_); rintro e wb ⟨rfl, hb⟩))
    go_ret
    exact ⟨rfl, belL⟩
theorem nodeMay_ {up : Bool} {id : Int} {A B I L : Option Addr} {n c m d ni ci nl cl : Nat} {ps : List S98} {xs : List Int} {is : List S48} {ls : List S77} {w : World} [h1 : Sr k98 w A n c ps] [h2 : Sr kI w B m d xs] [h3 : Sr k48 w I ni ci is] [h4 : Sr k77 w L nl cl ls] (hb : n + m + ni + nl ≤ 1000000000000000) :
    Calls Tryz.prog 108 #[.agg #[.bool up, .int .i64 id, .slice A n c, .slice B m d, .slice I ni ci, .slice L nl cl]] w fun e w' => e = .returned (.bool (nodeB ⟨up, ⟨id, ps, xs⟩, is, ls⟩)) ∧ BelL w w' := by
  obtain rfl := h1.len
  obtain rfl := h2.len
  obtain rfl := h3.len
  obtain rfl := h4.len
  have s1 := sr_l h1
  have s2 := sr_l h2
  have s3 := sr_l h3
  have s4 := sr_l h4
  cases up
  · by_cases zz : ps.length + xs.length + is.length + ls.length = 0
    · obtain rfl : ps = [] := List.eq_nil_of_length_eq_zero (by omega)
      obtain rfl : xs = [] := List.eq_nil_of_length_eq_zero (by omega)
      obtain rfl : is = [] := List.eq_nil_of_length_eq_zero (by omega)
      obtain rfl : ls = [] := List.eq_nil_of_length_eq_zero (by omega)
      exact nodeMay_z
    · exact nodeMay_o zz hb
  · cases p : viewB id ps xs
    · exact nodeMay_vu p
    cases q : storeB is
    · exact nodeMay_su p q
    by_cases r : ls.length ≤ 64
    · exact nodeMay_tu p q r
    · exact nodeMay_lu p q r
theorem nodeUp_ {up : Bool} {id : Int} {A B I L : Option Addr} {n c m d ni ci nl cl : Nat} {ps : List S98} {xs : List Int} {is : List S48} {ls : List S77} {w : World} [h1 : Sr k98 w A n c ps] [h2 : Sr kI w B m d xs] [h3 : Sr k48 w I ni ci is] [h4 : Sr k77 w L nl cl ls] (hb : n + m + ni + nl ≤ 1000000000000000) :
    Calls Tryz.prog 56 #[.agg #[.bool up, .int .i64 id, .slice A n c, .slice B m d, .slice I ni ci, .slice L nl cl]] w fun e w' => e = .returned (.bool (up && nodeB ⟨up, ⟨id, ps, xs⟩, is, ls⟩)) ∧ BelL w w' := by
  obtain rfl := h1.len
  obtain rfl := h2.len
  obtain rfl := h3.len
  obtain rfl := h4.len
  have s1 := sr_l h1
  have s2 := sr_l h2
  have s3 := sr_l h3
  have s4 := sr_l h4
  clear h1 h2 h3 h4
  have HB := Aside0.mk hb
  clear hb
  cases up
  · go_enter Tryz.func56, Tryz.ntmps56
    go_wp2_with (first | (with_reducible refine gate_dst (N := 1) rfl ?_; refine box_tc rfl (N := 1) rfl (cs := #[.bool false, .int .i64 id, .slice A ps.length c, .slice B xs.length d, .slice I is.length ci, .slice L ls.length cl]) (t := 40) ?hr ?_; (case hr => first | (go_simp; done) | (go_simp; rfl)); intro g1 wg1 _ _ _) | (go_at_call 108; (with_reducible refine Calls.mono (nodeMay_ HB.out) ?_); rintro e wb ⟨rfl, hb⟩))
    go_ret
    exact ⟨rfl, belL⟩
  · go_enter Tryz.func56, Tryz.ntmps56
    go_wp2_with (first | (with_reducible refine gate_dst (N := 1) rfl ?_; refine box_tc rfl (N := 1) rfl (cs := #[.bool true, .int .i64 id, .slice A ps.length c, .slice B xs.length d, .slice I is.length ci, .slice L ls.length cl]) (t := 40) ?hr ?_; (case hr => first | (go_simp; done) | (go_simp; rfl)); intro g1 wg1 _ _ _) | (go_at_call 108; (with_reducible refine Calls.mono (nodeMay_ HB.out) ?_); rintro e wb ⟨rfl, hb⟩))
    go_ret
    exact ⟨rfl, belL⟩
end Go.Proofs.YtljipbmmgcccnaaGreat.T
end
