/- Words and lemmas that the claim's proof names, part 9: what the program's functions answer, at the inputs that each theorem's premises name. Conditions: each theorem's own premises. -/
import Derived.Test.YtljipbmmgcccnaaGreatKP8
section
namespace Go.Proofs.YtljipbmmgcccnaaGreat.T
open Go.RowKit Go.Proofs.YtljipbmmgcccnaaGreatW.PrintWords Go.Proofs.YtljipbmmgcccnaaGreatW.PrintLast Go.Proofs.YtljipbmmgcccnaaGreatW.PrintMore
attribute [local go_sem] cell_tc frozen_tc max2_int min2_int
attribute [local go_sem ↓] Go.wp_at_zero Go.wp_at_succ
set_option linter.unusedVariables false
set_option linter.unusedSimpArgs false
set_option synthInstance.maxHeartbeats 400000
set_option synthInstance.maxSize 512
section
attribute [local go_sem] cell_tc2
attribute [local go_sem high] eqA46 eqA98 eqA77 eqA48
def itemZ (i : S48) : Bool := (i.f0 == 0) && (i.f1.f0 == 0) && (i.f1.f1 == 0) && (i.f2 == 0) && !i.f3
def noneB (n : Nat) (key : Int) (i : S48) (has : Bool) : Bool := (n == 0) && (key == 0) && itemZ i && !has
set_option maxHeartbeats 2000000 in
theorem none_ {mk mf mt my ik ic ix iv : Int} {ig mh : Bool} {A : Option Addr} {n c : Nat} {w : World} :
 Calls Tryz.prog 180 #[.agg #[.int .i64 mk, .int .i64 mf, .int .i64 mt, .slice A n c, .int .i64 my, .int .i64 ik, .int .i64 ic, .int .i64 ix, .int .i64 iv, .bool ig, .bool mh]] w fun e w' => e = .returned (.bool (noneB n my ⟨ik, ⟨ic, ix⟩, iv, ig⟩ mh)) ∧ BelL w w' := by
 have HN : ∀ b, noneB n my ⟨ik, ⟨ic, ix⟩, iv, ig⟩ mh = b ↔ Aside0 (noneB n my ⟨ik, ⟨ic, ix⟩, iv, ig⟩ mh = b) := fun b => ⟨fun h => ⟨h⟩, fun h => h.out⟩
 by_cases h1 : n = 0
 ·subst h1
  by_cases h2 : my = 0
  ·subst h2
   by_cases h3 : ik = 0
   ·subst h3
    by_cases h4 : ic = 0
    ·subst h4
     by_cases h5 : ix = 0
     ·subst h5
      by_cases h6 : iv = 0
      ·subst h6
       cases ig
       ·rw [show noneB 0 0 ⟨0, ⟨0, 0⟩, 0, false⟩ mh = !mh by simp [noneB, itemZ]]
        go_enter Tryz.func180, Tryz.ntmps180
        go_wp2_with (first | (with_reducible refine box_tc rfl (N := 1) rfl (cs := #[.int .i64 mk, .int .i64 mf, .int .i64 mt, .slice A 0 c, .int .i64 0, .int .i64 0, .int .i64 0, .int .i64 0, .int .i64 0, .bool false, .bool mh]) (t := 126) ?hr ?_; (case hr => go_simp <;> rfl); intro g1 wg1 _ _ _))
        go_ret
        exact ⟨rfl, belL⟩
       ·rw [show noneB 0 0 ⟨0, ⟨0, 0⟩, 0, true⟩ mh = false by simp [noneB, itemZ]]
        go_enter Tryz.func180, Tryz.ntmps180
        go_wp2_with (first | (with_reducible refine box_tc rfl (N := 1) rfl (cs := #[.int .i64 mk, .int .i64 mf, .int .i64 mt, .slice A 0 c, .int .i64 0, .int .i64 0, .int .i64 0, .int .i64 0, .int .i64 0, .bool true, .bool mh]) (t := 126) ?hr ?_; (case hr => go_simp <;> rfl); intro g1 wg1 _ _ _))
        go_ret
        exact ⟨rfl, belL⟩
      ·rw [show noneB 0 0 ⟨0, ⟨0, 0⟩, iv, ig⟩ mh = false by simp [noneB, itemZ, h6]]
       have hq : (iv == 0) = false := by simpa using h6
       clear h6
       go_enter Tryz.func180, Tryz.ntmps180
       go_wp2_with (first | (with_reducible refine box_tc rfl (N := 1) rfl (cs := #[.int .i64 mk, .int .i64 mf, .int .i64 mt, .slice A 0 c, .int .i64 0, .int .i64 0, .int .i64 0, .int .i64 0, .int .i64 iv, .bool ig, .bool mh]) (t := 126) ?hr ?_; (case hr => go_simp <;> rfl); intro g1 wg1 _ _ _))
       go_ret
       exact ⟨rfl, belL⟩
     ·rw [show noneB 0 0 ⟨0, ⟨0, ix⟩, iv, ig⟩ mh = false by simp [noneB, itemZ, h5]]
      have hq : (ix == 0) = false := by simpa using h5
      clear h5
      go_enter Tryz.func180, Tryz.ntmps180
      go_wp2_with (first | (with_reducible refine box_tc rfl (N := 1) rfl (cs := #[.int .i64 mk, .int .i64 mf, .int .i64 mt, .slice A 0 c, .int .i64 0, .int .i64 0, .int .i64 0, .int .i64 ix, .int .i64 iv, .bool ig, .bool mh]) (t := 126) ?hr ?_; (case hr => go_simp <;> rfl); intro g1 wg1 _ _ _))
      go_ret
      exact ⟨rfl, belL⟩
    ·rw [show noneB 0 0 ⟨0, ⟨ic, ix⟩, iv, ig⟩ mh = false by simp [noneB, itemZ, h4]]
     have hq : (ic == 0) = false := by simpa using h4
     clear h4
     go_enter Tryz.func180, Tryz.ntmps180
     go_wp2_with (first | (with_reducible refine box_tc rfl (N := 1) rfl (cs := #[.int .i64 mk, .int .i64 mf, .int .i64 mt, .slice A 0 c, .int .i64 0, .int .i64 0, .int .i64 ic, .int .i64 ix, .int .i64 iv, .bool ig, .bool mh]) (t := 126) ?hr ?_; (case hr => go_simp <;> rfl); intro g1 wg1 _ _ _))
     go_ret
     exact ⟨rfl, belL⟩
   ·rw [show noneB 0 0 ⟨ik, ⟨ic, ix⟩, iv, ig⟩ mh = false by simp [noneB, itemZ, h3]]
    have hq : (ik == 0) = false := by simpa using h3
    clear h3
    go_enter Tryz.func180, Tryz.ntmps180
    go_wp2_with (first | (with_reducible refine box_tc rfl (N := 1) rfl (cs := #[.int .i64 mk, .int .i64 mf, .int .i64 mt, .slice A 0 c, .int .i64 0, .int .i64 ik, .int .i64 ic, .int .i64 ix, .int .i64 iv, .bool ig, .bool mh]) (t := 126) ?hr ?_; (case hr => go_simp <;> rfl); intro g1 wg1 _ _ _))
    go_ret
    exact ⟨rfl, belL⟩
  ·rw [show noneB 0 my ⟨ik, ⟨ic, ix⟩, iv, ig⟩ mh = false by simp [noneB, h2]]
   have h4 : (my == 0) = false := by simpa using h2
   clear h2
   go_enter Tryz.func180, Tryz.ntmps180
   go_wp2_with (first | (with_reducible refine box_tc rfl (N := 1) rfl (cs := #[.int .i64 mk, .int .i64 mf, .int .i64 mt, .slice A 0 c, .int .i64 my, .int .i64 ik, .int .i64 ic, .int .i64 ix, .int .i64 iv, .bool ig, .bool mh]) (t := 126) ?hr ?_; (case hr => go_simp <;> rfl); intro g1 wg1 _ _ _))
   go_ret
   exact ⟨rfl, belL⟩
 ·rw [show noneB n my ⟨ik, ⟨ic, ix⟩, iv, ig⟩ mh = false by simp [noneB, h1]]
  have h4 : ((n : Int) == 0) = false := by simpa using h1
  have h5 : (n == 0) = false := by simpa using h1
  clear h1
  go_enter Tryz.func180, Tryz.ntmps180
  go_wp2_with (first | (with_reducible refine box_tc rfl (N := 1) rfl (cs := #[.int .i64 mk, .int .i64 mf, .int .i64 mt, .slice A n c, .int .i64 my, .int .i64 ik, .int .i64 ic, .int .i64 ix, .int .i64 iv, .bool ig, .bool mh]) (t := 126) ?hr ?_; (case hr => go_simp <;> rfl); intro g1 wg1 _ _ _))
  go_ret
  exact ⟨rfl, belL⟩
end
section
attribute [local go_sem] cell_tc2
attribute [local go_sem high] eqA46 eqA98 eqA77 eqA48
def kindB (m : S126) : Bool :=
 if m.f0 = 0 then noneB 0 m.f4 m.f5 m.f6 && decide (m.f3.length ≤ 16) && placesB m.f3
 else if m.f0 = 1 then noneB m.f3.length m.f4 z48 m.f6 && itemOk m.f5
 else if m.f0 = 2 then noneB m.f3.length 0 m.f5 m.f6 && placeB m.f4
 else if m.f0 = 3 then noneB m.f3.length 0 (if m.f6 then z48 else m.f5) false && placeB m.f4 && (!m.f6 || (itemOk m.f5 && (m.f5.f0 == m.f4)))
 else false
def msgB (m : S126) : Bool := placeB m.f1 && placeB m.f2 && !(m.f1 == m.f2) && kindB m
set_option maxHeartbeats 2000000 in
theorem msgMay_a {mk : Int} {mf : Int} {mt : Int} {my : Int} {ik : Int} {ic : Int} {ix : Int} {iv : Int} {ig : Bool} {mh : Bool} {A : Option Addr} {c : Nat} {ids : List Int} {w : World} [h : Sr kI w A ids.length c ids] (p1 : placeB mf = false) :
 Calls Tryz.prog 144 #[.agg #[.int .i64 mk, .int .i64 mf, .int .i64 mt, .slice A ids.length c, .int .i64 my, .int .i64 ik, .int .i64 ic, .int .i64 ix, .int .i64 iv, .bool ig, .bool mh]] w fun e w' => e = .returned (.bool (msgB ⟨mk, mf, mt, ids, my, ⟨ik, ⟨ic, ix⟩, iv, ig⟩, mh⟩)) ∧ BelL w w' := by
 have hs := sr_l h
 clear h
 rw [show msgB ⟨mk, mf, mt, ids, my, ⟨ik, ⟨ic, ix⟩, iv, ig⟩, mh⟩ = false by simp [msgB, p1]]
 go_enter Tryz.func144, Tryz.ntmps144
 go_wp2_with (first | (with_reducible refine box_tc rfl (N := 1) rfl (cs := #[.int .i64 mk, .int .i64 mf, .int .i64 mt, .slice A ids.length c, .int .i64 my, .int .i64 ik, .int .i64 ic, .int .i64 ix, .int .i64 iv, .bool ig, .bool mh]) (t := 126) ?hr ?_; (case hr => go_simp <;> rfl); intro g1 wg1 _ _ _) | (go_at_call 35; (with_reducible refine cM (place _ _) ?_); rintro e w' ⟨rfl, ⟨nd, rfl⟩⟩) | (with_reducible refine box_tc rfl (N := 3) rfl (cs := #[.int .i64 0, .int .i64 0, .int .i64 0, .slice none 0 0, .int .i64 0, .int .i64 0, .int .i64 0, .int .i64 0, .int .i64 0, .bool false, .bool false]) (t := 126) ?hr ?_; (case hr => go_simp <;> rfl); intro g3 wg3 _ _ _) | (go_at_call 180; (with_reducible refine cM (none_) ?_); rintro e wb ⟨rfl, hb⟩) | (go_at_call 36; (with_reducible refine cM (places_) ?_); rintro e w' ⟨rfl, ⟨nd, rfl⟩⟩) | (go_at_call 57; (with_reducible refine cM (itemMay_) ?_); rintro e wb ⟨rfl, hb⟩))
 go_ret
 exact ⟨rfl, belL⟩
set_option maxHeartbeats 2000000 in
theorem msgMay_b {mk : Int} {mf : Int} {mt : Int} {my : Int} {ik : Int} {ic : Int} {ix : Int} {iv : Int} {ig : Bool} {mh : Bool} {A : Option Addr} {c : Nat} {ids : List Int} {w : World} [h : Sr kI w A ids.length c ids] (p1 : placeB mf = true) (p2 : placeB mt = false) :
 Calls Tryz.prog 144 #[.agg #[.int .i64 mk, .int .i64 mf, .int .i64 mt, .slice A ids.length c, .int .i64 my, .int .i64 ik, .int .i64 ic, .int .i64 ix, .int .i64 iv, .bool ig, .bool mh]] w fun e w' => e = .returned (.bool (msgB ⟨mk, mf, mt, ids, my, ⟨ik, ⟨ic, ix⟩, iv, ig⟩, mh⟩)) ∧ BelL w w' := by
 have hs := sr_l h
 clear h
 rw [show msgB ⟨mk, mf, mt, ids, my, ⟨ik, ⟨ic, ix⟩, iv, ig⟩, mh⟩ = false by simp [msgB, p2]]
 go_enter Tryz.func144, Tryz.ntmps144
 go_wp2_with (first | (with_reducible refine box_tc rfl (N := 1) rfl (cs := #[.int .i64 mk, .int .i64 mf, .int .i64 mt, .slice A ids.length c, .int .i64 my, .int .i64 ik, .int .i64 ic, .int .i64 ix, .int .i64 iv, .bool ig, .bool mh]) (t := 126) ?hr ?_; (case hr => go_simp <;> rfl); intro g1 wg1 _ _ _) | (go_at_call 35; (with_reducible refine cM (place _ _) ?_); rintro e w' ⟨rfl, ⟨nd, rfl⟩⟩) | (with_reducible refine box_tc rfl (N := 3) rfl (cs := #[.int .i64 0, .int .i64 0, .int .i64 0, .slice none 0 0, .int .i64 0, .int .i64 0, .int .i64 0, .int .i64 0, .int .i64 0, .bool false, .bool false]) (t := 126) ?hr ?_; (case hr => go_simp <;> rfl); intro g3 wg3 _ _ _) | (go_at_call 180; (with_reducible refine cM (none_) ?_); rintro e wb ⟨rfl, hb⟩) | (go_at_call 36; (with_reducible refine cM (places_) ?_); rintro e w' ⟨rfl, ⟨nd, rfl⟩⟩) | (go_at_call 57; (with_reducible refine cM (itemMay_) ?_); rintro e wb ⟨rfl, hb⟩))
 go_ret
 exact ⟨rfl, belL⟩
set_option maxHeartbeats 2000000 in
theorem msgMay_c {mk : Int} {mf : Int} {mt : Int} {my : Int} {ik : Int} {ic : Int} {ix : Int} {iv : Int} {ig : Bool} {mh : Bool} {A : Option Addr} {c : Nat} {ids : List Int} {w : World} [h : Sr kI w A ids.length c ids] (p1 : placeB mf = true) (p2 : placeB mt = true) (p3 : (mf == mt) = true) :
 Calls Tryz.prog 144 #[.agg #[.int .i64 mk, .int .i64 mf, .int .i64 mt, .slice A ids.length c, .int .i64 my, .int .i64 ik, .int .i64 ic, .int .i64 ix, .int .i64 iv, .bool ig, .bool mh]] w fun e w' => e = .returned (.bool (msgB ⟨mk, mf, mt, ids, my, ⟨ik, ⟨ic, ix⟩, iv, ig⟩, mh⟩)) ∧ BelL w w' := by
 have hs := sr_l h
 clear h
 rw [show msgB ⟨mk, mf, mt, ids, my, ⟨ik, ⟨ic, ix⟩, iv, ig⟩, mh⟩ = false by simp [msgB, p3]]
 go_enter Tryz.func144, Tryz.ntmps144
 go_wp2_with (first | (with_reducible refine box_tc rfl (N := 1) rfl (cs := #[.int .i64 mk, .int .i64 mf, .int .i64 mt, .slice A ids.length c, .int .i64 my, .int .i64 ik, .int .i64 ic, .int .i64 ix, .int .i64 iv, .bool ig, .bool mh]) (t := 126) ?hr ?_; (case hr => go_simp <;> rfl); intro g1 wg1 _ _ _) | (go_at_call 35; (with_reducible refine cM (place _ _) ?_); rintro e w' ⟨rfl, ⟨nd, rfl⟩⟩) | (with_reducible refine box_tc rfl (N := 3) rfl (cs := #[.int .i64 0, .int .i64 0, .int .i64 0, .slice none 0 0, .int .i64 0, .int .i64 0, .int .i64 0, .int .i64 0, .int .i64 0, .bool false, .bool false]) (t := 126) ?hr ?_; (case hr => go_simp <;> rfl); intro g3 wg3 _ _ _) | (go_at_call 180; (with_reducible refine cM (none_) ?_); rintro e wb ⟨rfl, hb⟩) | (go_at_call 36; (with_reducible refine cM (places_) ?_); rintro e w' ⟨rfl, ⟨nd, rfl⟩⟩) | (go_at_call 57; (with_reducible refine cM (itemMay_) ?_); rintro e wb ⟨rfl, hb⟩))
 go_ret
 exact ⟨rfl, belL⟩
set_option maxHeartbeats 2000000 in
theorem msgMay_k0a {mf : Int} {mt : Int} {my : Int} {ik : Int} {ic : Int} {ix : Int} {iv : Int} {ig : Bool} {mh : Bool} {A : Option Addr} {c : Nat} {ids : List Int} {w : World} [h : Sr kI w A ids.length c ids] (p1 : placeB mf = true) (p2 : placeB mt = true) (p3 : (mf == mt) = false) (q : noneB 0 my ⟨ik, ⟨ic, ix⟩, iv, ig⟩ mh = false) :
 Calls Tryz.prog 144 #[.agg #[.int .i64 0, .int .i64 mf, .int .i64 mt, .slice A ids.length c, .int .i64 my, .int .i64 ik, .int .i64 ic, .int .i64 ix, .int .i64 iv, .bool ig, .bool mh]] w fun e w' => e = .returned (.bool (msgB ⟨0, mf, mt, ids, my, ⟨ik, ⟨ic, ix⟩, iv, ig⟩, mh⟩)) ∧ BelL w w' := by
 have hs := sr_l h
 clear h
 rw [show msgB ⟨0, mf, mt, ids, my, ⟨ik, ⟨ic, ix⟩, iv, ig⟩, mh⟩ = false by simp [msgB, kindB, q]]
 go_enter Tryz.func144, Tryz.ntmps144
 go_wp2_with (first | (with_reducible refine box_tc rfl (N := 1) rfl (cs := #[.int .i64 0, .int .i64 mf, .int .i64 mt, .slice A ids.length c, .int .i64 my, .int .i64 ik, .int .i64 ic, .int .i64 ix, .int .i64 iv, .bool ig, .bool mh]) (t := 126) ?hr ?_; (case hr => go_simp <;> rfl); intro g1 wg1 _ _ _) | (go_at_call 35; (with_reducible refine cM (place _ _) ?_); rintro e w' ⟨rfl, ⟨nd, rfl⟩⟩) | (with_reducible refine box_tc rfl (N := 3) rfl (cs := #[.int .i64 0, .int .i64 0, .int .i64 0, .slice none 0 0, .int .i64 0, .int .i64 0, .int .i64 0, .int .i64 0, .int .i64 0, .bool false, .bool false]) (t := 126) ?hr ?_; (case hr => go_simp <;> rfl); intro g3 wg3 _ _ _) | (go_at_call 180; (with_reducible refine cM (none_) ?_); rintro e wb ⟨rfl, hb⟩) | (go_at_call 36; (with_reducible refine cM (places_) ?_); rintro e w' ⟨rfl, ⟨nd, rfl⟩⟩) | (go_at_call 57; (with_reducible refine cM (itemMay_) ?_); rintro e wb ⟨rfl, hb⟩))
 go_ret
 exact ⟨rfl, belL⟩
set_option maxHeartbeats 2000000 in
theorem msgMay_k0b {mf : Int} {mt : Int} {my : Int} {ik : Int} {ic : Int} {ix : Int} {iv : Int} {ig : Bool} {mh : Bool} {A : Option Addr} {c : Nat} {ids : List Int} {w : World} [h : Sr kI w A ids.length c ids] (p1 : placeB mf = true) (p2 : placeB mt = true) (p3 : (mf == mt) = false) (q : noneB 0 my ⟨ik, ⟨ic, ix⟩, iv, ig⟩ mh = true) (r : ¬ ids.length ≤ 16) :
 Calls Tryz.prog 144 #[.agg #[.int .i64 0, .int .i64 mf, .int .i64 mt, .slice A ids.length c, .int .i64 my, .int .i64 ik, .int .i64 ic, .int .i64 ix, .int .i64 iv, .bool ig, .bool mh]] w fun e w' => e = .returned (.bool (msgB ⟨0, mf, mt, ids, my, ⟨ik, ⟨ic, ix⟩, iv, ig⟩, mh⟩)) ∧ BelL w w' := by
 have hs := sr_l h
 clear h
 rw [show msgB ⟨0, mf, mt, ids, my, ⟨ik, ⟨ic, ix⟩, iv, ig⟩, mh⟩ = false by simp [msgB, kindB, r]]
 have r1 : decide ((ids.length : Int) ≤ 16) = false := decide_eq_false (by omega)
 clear r
 go_enter Tryz.func144, Tryz.ntmps144
 go_wp2_with (first | (with_reducible refine box_tc rfl (N := 1) rfl (cs := #[.int .i64 0, .int .i64 mf, .int .i64 mt, .slice A ids.length c, .int .i64 my, .int .i64 ik, .int .i64 ic, .int .i64 ix, .int .i64 iv, .bool ig, .bool mh]) (t := 126) ?hr ?_; (case hr => go_simp <;> rfl); intro g1 wg1 _ _ _) | (go_at_call 35; (with_reducible refine cM (place _ _) ?_); rintro e w' ⟨rfl, ⟨nd, rfl⟩⟩) | (with_reducible refine box_tc rfl (N := 3) rfl (cs := #[.int .i64 0, .int .i64 0, .int .i64 0, .slice none 0 0, .int .i64 0, .int .i64 0, .int .i64 0, .int .i64 0, .int .i64 0, .bool false, .bool false]) (t := 126) ?hr ?_; (case hr => go_simp <;> rfl); intro g3 wg3 _ _ _) | (go_at_call 180; (with_reducible refine cM (none_) ?_); rintro e wb ⟨rfl, hb⟩) | (go_at_call 36; (with_reducible refine cM (places_) ?_); rintro e w' ⟨rfl, ⟨nd, rfl⟩⟩) | (go_at_call 57; (with_reducible refine cM (itemMay_) ?_); rintro e wb ⟨rfl, hb⟩))
 go_ret
 exact ⟨rfl, belL⟩
set_option maxHeartbeats 2000000 in
theorem msgMay_k0c {mf : Int} {mt : Int} {my : Int} {ik : Int} {ic : Int} {ix : Int} {iv : Int} {ig : Bool} {mh : Bool} {A : Option Addr} {c : Nat} {ids : List Int} {w : World} [h : Sr kI w A ids.length c ids] (p1 : placeB mf = true) (p2 : placeB mt = true) (p3 : (mf == mt) = false) (q : noneB 0 my ⟨ik, ⟨ic, ix⟩, iv, ig⟩ mh = true) (r : ids.length ≤ 16) :
 Calls Tryz.prog 144 #[.agg #[.int .i64 0, .int .i64 mf, .int .i64 mt, .slice A ids.length c, .int .i64 my, .int .i64 ik, .int .i64 ic, .int .i64 ix, .int .i64 iv, .bool ig, .bool mh]] w fun e w' => e = .returned (.bool (msgB ⟨0, mf, mt, ids, my, ⟨ik, ⟨ic, ix⟩, iv, ig⟩, mh⟩)) ∧ BelL w w' := by
 have hs := sr_l h
 clear h
 rw [show msgB ⟨0, mf, mt, ids, my, ⟨ik, ⟨ic, ix⟩, iv, ig⟩, mh⟩ = placesB ids by simp [msgB, kindB, p1, p2, p3, q, r]]
 have r1 : decide ((ids.length : Int) ≤ 16) = true := decide_eq_true (by omega)
 clear r
 go_enter Tryz.func144, Tryz.ntmps144
 go_wp2_with (first | (with_reducible refine box_tc rfl (N := 1) rfl (cs := #[.int .i64 0, .int .i64 mf, .int .i64 mt, .slice A ids.length c, .int .i64 my, .int .i64 ik, .int .i64 ic, .int .i64 ix, .int .i64 iv, .bool ig, .bool mh]) (t := 126) ?hr ?_; (case hr => go_simp <;> rfl); intro g1 wg1 _ _ _) | (go_at_call 35; (with_reducible refine cM (place _ _) ?_); rintro e w' ⟨rfl, ⟨nd, rfl⟩⟩) | (with_reducible refine box_tc rfl (N := 3) rfl (cs := #[.int .i64 0, .int .i64 0, .int .i64 0, .slice none 0 0, .int .i64 0, .int .i64 0, .int .i64 0, .int .i64 0, .int .i64 0, .bool false, .bool false]) (t := 126) ?hr ?_; (case hr => go_simp <;> rfl); intro g3 wg3 _ _ _) | (go_at_call 180; (with_reducible refine cM (none_) ?_); rintro e wb ⟨rfl, hb⟩) | (go_at_call 36; (with_reducible refine cM (places_) ?_); rintro e w' ⟨rfl, ⟨nd, rfl⟩⟩) | (go_at_call 57; (with_reducible refine cM (itemMay_) ?_); rintro e wb ⟨rfl, hb⟩))
 go_ret
 exact ⟨rfl, belL⟩
set_option maxHeartbeats 2000000 in
theorem msgMay_k1a {mf : Int} {mt : Int} {my : Int} {ik : Int} {ic : Int} {ix : Int} {iv : Int} {ig : Bool} {mh : Bool} {A : Option Addr} {c : Nat} {ids : List Int} {w : World} [h : Sr kI w A ids.length c ids] (p1 : placeB mf = true) (p2 : placeB mt = true) (p3 : (mf == mt) = false) (q : noneB ids.length my ⟨0, ⟨0, 0⟩, 0, false⟩ mh = false) :
 Calls Tryz.prog 144 #[.agg #[.int .i64 1, .int .i64 mf, .int .i64 mt, .slice A ids.length c, .int .i64 my, .int .i64 ik, .int .i64 ic, .int .i64 ix, .int .i64 iv, .bool ig, .bool mh]] w fun e w' => e = .returned (.bool (msgB ⟨1, mf, mt, ids, my, ⟨ik, ⟨ic, ix⟩, iv, ig⟩, mh⟩)) ∧ BelL w w' := by
 have hs := sr_l h
 clear h
 rw [show msgB ⟨1, mf, mt, ids, my, ⟨ik, ⟨ic, ix⟩, iv, ig⟩, mh⟩ = false by simp [msgB, kindB, show noneB ids.length my z48 mh = false from q]]
 go_enter Tryz.func144, Tryz.ntmps144
 go_wp2_with (first | (with_reducible refine box_tc rfl (N := 1) rfl (cs := #[.int .i64 1, .int .i64 mf, .int .i64 mt, .slice A ids.length c, .int .i64 my, .int .i64 ik, .int .i64 ic, .int .i64 ix, .int .i64 iv, .bool ig, .bool mh]) (t := 126) ?hr ?_; (case hr => go_simp <;> rfl); intro g1 wg1 _ _ _) | (go_at_call 35; (with_reducible refine cM (place _ _) ?_); rintro e w' ⟨rfl, ⟨nd, rfl⟩⟩) | (with_reducible refine box_tc rfl (N := 3) rfl (cs := #[.int .i64 0, .int .i64 0, .int .i64 0, .slice none 0 0, .int .i64 0, .int .i64 0, .int .i64 0, .int .i64 0, .int .i64 0, .bool false, .bool false]) (t := 126) ?hr ?_; (case hr => go_simp <;> rfl); intro g3 wg3 _ _ _) | (go_at_call 180; (with_reducible refine cM (none_) ?_); rintro e wb ⟨rfl, hb⟩) | (go_at_call 36; (with_reducible refine cM (places_) ?_); rintro e w' ⟨rfl, ⟨nd, rfl⟩⟩) | (go_at_call 57; (with_reducible refine cM (itemMay_) ?_); rintro e wb ⟨rfl, hb⟩))
 go_ret
 exact ⟨rfl, belL⟩
set_option maxHeartbeats 2000000 in
theorem msgMay_k1b {mf : Int} {mt : Int} {my : Int} {ik : Int} {ic : Int} {ix : Int} {iv : Int} {ig : Bool} {mh : Bool} {A : Option Addr} {c : Nat} {ids : List Int} {w : World} [h : Sr kI w A ids.length c ids] (p1 : placeB mf = true) (p2 : placeB mt = true) (p3 : (mf == mt) = false) (q : noneB ids.length my ⟨0, ⟨0, 0⟩, 0, false⟩ mh = true) :
 Calls Tryz.prog 144 #[.agg #[.int .i64 1, .int .i64 mf, .int .i64 mt, .slice A ids.length c, .int .i64 my, .int .i64 ik, .int .i64 ic, .int .i64 ix, .int .i64 iv, .bool ig, .bool mh]] w fun e w' => e = .returned (.bool (msgB ⟨1, mf, mt, ids, my, ⟨ik, ⟨ic, ix⟩, iv, ig⟩, mh⟩)) ∧ BelL w w' := by
 have hs := sr_l h
 clear h
 rw [show msgB ⟨1, mf, mt, ids, my, ⟨ik, ⟨ic, ix⟩, iv, ig⟩, mh⟩ = itemB ik ic ix iv ig by simp [msgB, kindB, p1, p2, p3, show noneB ids.length my z48 mh = true from q, itemOk]]
 go_enter Tryz.func144, Tryz.ntmps144
 go_wp2_with (first | (with_reducible refine box_tc rfl (N := 1) rfl (cs := #[.int .i64 1, .int .i64 mf, .int .i64 mt, .slice A ids.length c, .int .i64 my, .int .i64 ik, .int .i64 ic, .int .i64 ix, .int .i64 iv, .bool ig, .bool mh]) (t := 126) ?hr ?_; (case hr => go_simp <;> rfl); intro g1 wg1 _ _ _) | (go_at_call 35; (with_reducible refine cM (place _ _) ?_); rintro e w' ⟨rfl, ⟨nd, rfl⟩⟩) | (with_reducible refine box_tc rfl (N := 3) rfl (cs := #[.int .i64 0, .int .i64 0, .int .i64 0, .slice none 0 0, .int .i64 0, .int .i64 0, .int .i64 0, .int .i64 0, .int .i64 0, .bool false, .bool false]) (t := 126) ?hr ?_; (case hr => go_simp <;> rfl); intro g3 wg3 _ _ _) | (go_at_call 180; (with_reducible refine cM (none_) ?_); rintro e wb ⟨rfl, hb⟩) | (go_at_call 36; (with_reducible refine cM (places_) ?_); rintro e w' ⟨rfl, ⟨nd, rfl⟩⟩) | (go_at_call 57; (with_reducible refine cM (itemMay_) ?_); rintro e wb ⟨rfl, hb⟩))
 go_ret
 exact ⟨rfl, belL⟩
set_option maxHeartbeats 2000000 in
theorem msgMay_k2a {mf : Int} {mt : Int} {my : Int} {ik : Int} {ic : Int} {ix : Int} {iv : Int} {ig : Bool} {mh : Bool} {A : Option Addr} {c : Nat} {ids : List Int} {w : World} [h : Sr kI w A ids.length c ids] (p1 : placeB mf = true) (p2 : placeB mt = true) (p3 : (mf == mt) = false) (q : noneB ids.length 0 ⟨ik, ⟨ic, ix⟩, iv, ig⟩ mh = false) :
 Calls Tryz.prog 144 #[.agg #[.int .i64 2, .int .i64 mf, .int .i64 mt, .slice A ids.length c, .int .i64 my, .int .i64 ik, .int .i64 ic, .int .i64 ix, .int .i64 iv, .bool ig, .bool mh]] w fun e w' => e = .returned (.bool (msgB ⟨2, mf, mt, ids, my, ⟨ik, ⟨ic, ix⟩, iv, ig⟩, mh⟩)) ∧ BelL w w' := by
 have hs := sr_l h
 clear h
 rw [show msgB ⟨2, mf, mt, ids, my, ⟨ik, ⟨ic, ix⟩, iv, ig⟩, mh⟩ = false by simp [msgB, kindB, q]]
 go_enter Tryz.func144, Tryz.ntmps144
 go_wp2_with (first | (with_reducible refine box_tc rfl (N := 1) rfl (cs := #[.int .i64 2, .int .i64 mf, .int .i64 mt, .slice A ids.length c, .int .i64 my, .int .i64 ik, .int .i64 ic, .int .i64 ix, .int .i64 iv, .bool ig, .bool mh]) (t := 126) ?hr ?_; (case hr => go_simp <;> rfl); intro g1 wg1 _ _ _) | (go_at_call 35; (with_reducible refine cM (place _ _) ?_); rintro e w' ⟨rfl, ⟨nd, rfl⟩⟩) | (with_reducible refine box_tc rfl (N := 3) rfl (cs := #[.int .i64 0, .int .i64 0, .int .i64 0, .slice none 0 0, .int .i64 0, .int .i64 0, .int .i64 0, .int .i64 0, .int .i64 0, .bool false, .bool false]) (t := 126) ?hr ?_; (case hr => go_simp <;> rfl); intro g3 wg3 _ _ _) | (go_at_call 180; (with_reducible refine cM (none_) ?_); rintro e wb ⟨rfl, hb⟩) | (go_at_call 36; (with_reducible refine cM (places_) ?_); rintro e w' ⟨rfl, ⟨nd, rfl⟩⟩) | (go_at_call 57; (with_reducible refine cM (itemMay_) ?_); rintro e wb ⟨rfl, hb⟩))
 go_ret
 exact ⟨rfl, belL⟩
set_option maxHeartbeats 2000000 in
theorem msgMay_k2b {mf : Int} {mt : Int} {my : Int} {ik : Int} {ic : Int} {ix : Int} {iv : Int} {ig : Bool} {mh : Bool} {A : Option Addr} {c : Nat} {ids : List Int} {w : World} [h : Sr kI w A ids.length c ids] (p1 : placeB mf = true) (p2 : placeB mt = true) (p3 : (mf == mt) = false) (q : noneB ids.length 0 ⟨ik, ⟨ic, ix⟩, iv, ig⟩ mh = true) :
 Calls Tryz.prog 144 #[.agg #[.int .i64 2, .int .i64 mf, .int .i64 mt, .slice A ids.length c, .int .i64 my, .int .i64 ik, .int .i64 ic, .int .i64 ix, .int .i64 iv, .bool ig, .bool mh]] w fun e w' => e = .returned (.bool (msgB ⟨2, mf, mt, ids, my, ⟨ik, ⟨ic, ix⟩, iv, ig⟩, mh⟩)) ∧ BelL w w' := by
 have hs := sr_l h
 clear h
 rw [show msgB ⟨2, mf, mt, ids, my, ⟨ik, ⟨ic, ix⟩, iv, ig⟩, mh⟩ = placeB my by simp [msgB, kindB, p1, p2, p3, q]]
 go_enter Tryz.func144, Tryz.ntmps144
 go_wp2_with (first | (with_reducible refine box_tc rfl (N := 1) rfl (cs := #[.int .i64 2, .int .i64 mf, .int .i64 mt, .slice A ids.length c, .int .i64 my, .int .i64 ik, .int .i64 ic, .int .i64 ix, .int .i64 iv, .bool ig, .bool mh]) (t := 126) ?hr ?_; (case hr => go_simp <;> rfl); intro g1 wg1 _ _ _) | (go_at_call 35; (with_reducible refine cM (place _ _) ?_); rintro e w' ⟨rfl, ⟨nd, rfl⟩⟩) | (with_reducible refine box_tc rfl (N := 3) rfl (cs := #[.int .i64 0, .int .i64 0, .int .i64 0, .slice none 0 0, .int .i64 0, .int .i64 0, .int .i64 0, .int .i64 0, .int .i64 0, .bool false, .bool false]) (t := 126) ?hr ?_; (case hr => go_simp <;> rfl); intro g3 wg3 _ _ _) | (go_at_call 180; (with_reducible refine cM (none_) ?_); rintro e wb ⟨rfl, hb⟩) | (go_at_call 36; (with_reducible refine cM (places_) ?_); rintro e w' ⟨rfl, ⟨nd, rfl⟩⟩) | (go_at_call 57; (with_reducible refine cM (itemMay_) ?_); rintro e wb ⟨rfl, hb⟩))
 go_ret
 exact ⟨rfl, belL⟩
set_option maxHeartbeats 2000000 in
theorem msgMay_k3a {mf : Int} {mt : Int} {my : Int} {ik : Int} {ic : Int} {ix : Int} {iv : Int} {ig : Bool} {A : Option Addr} {c : Nat} {ids : List Int} {w : World} [h : Sr kI w A ids.length c ids] (p1 : placeB mf = true) (p2 : placeB mt = true) (p3 : (mf == mt) = false) (q : noneB ids.length 0 ⟨ik, ⟨ic, ix⟩, iv, ig⟩ false = false) :
 Calls Tryz.prog 144 #[.agg #[.int .i64 3, .int .i64 mf, .int .i64 mt, .slice A ids.length c, .int .i64 my, .int .i64 ik, .int .i64 ic, .int .i64 ix, .int .i64 iv, .bool ig, .bool false]] w fun e w' => e = .returned (.bool (msgB ⟨3, mf, mt, ids, my, ⟨ik, ⟨ic, ix⟩, iv, ig⟩, false⟩)) ∧ BelL w w' := by
 have hs := sr_l h
 clear h
 rw [show msgB ⟨3, mf, mt, ids, my, ⟨ik, ⟨ic, ix⟩, iv, ig⟩, false⟩ = false by simp [msgB, kindB, q]]
 go_enter Tryz.func144, Tryz.ntmps144
 go_wp2_with (first | (with_reducible refine box_tc rfl (N := 1) rfl (cs := #[.int .i64 3, .int .i64 mf, .int .i64 mt, .slice A ids.length c, .int .i64 my, .int .i64 ik, .int .i64 ic, .int .i64 ix, .int .i64 iv, .bool ig, .bool false]) (t := 126) ?hr ?_; (case hr => go_simp <;> rfl); intro g1 wg1 _ _ _) | (go_at_call 35; (with_reducible refine cM (place _ _) ?_); rintro e w' ⟨rfl, ⟨nd, rfl⟩⟩) | (with_reducible refine box_tc rfl (N := 3) rfl (cs := #[.int .i64 0, .int .i64 0, .int .i64 0, .slice none 0 0, .int .i64 0, .int .i64 0, .int .i64 0, .int .i64 0, .int .i64 0, .bool false, .bool false]) (t := 126) ?hr ?_; (case hr => go_simp <;> rfl); intro g3 wg3 _ _ _) | (go_at_call 180; (with_reducible refine cM (none_) ?_); rintro e wb ⟨rfl, hb⟩) | (go_at_call 36; (with_reducible refine cM (places_) ?_); rintro e w' ⟨rfl, ⟨nd, rfl⟩⟩) | (go_at_call 57; (with_reducible refine cM (itemMay_) ?_); rintro e wb ⟨rfl, hb⟩))
 go_ret
 exact ⟨rfl, belL⟩
set_option maxHeartbeats 2000000 in
theorem msgMay_k3b {mf : Int} {mt : Int} {my : Int} {ik : Int} {ic : Int} {ix : Int} {iv : Int} {ig : Bool} {A : Option Addr} {c : Nat} {ids : List Int} {w : World} [h : Sr kI w A ids.length c ids] (p1 : placeB mf = true) (p2 : placeB mt = true) (p3 : (mf == mt) = false) (q : noneB ids.length 0 ⟨ik, ⟨ic, ix⟩, iv, ig⟩ false = true) (r : placeB my = false) :
 Calls Tryz.prog 144 #[.agg #[.int .i64 3, .int .i64 mf, .int .i64 mt, .slice A ids.length c, .int .i64 my, .int .i64 ik, .int .i64 ic, .int .i64 ix, .int .i64 iv, .bool ig, .bool false]] w fun e w' => e = .returned (.bool (msgB ⟨3, mf, mt, ids, my, ⟨ik, ⟨ic, ix⟩, iv, ig⟩, false⟩)) ∧ BelL w w' := by
 have hs := sr_l h
 clear h
 rw [show msgB ⟨3, mf, mt, ids, my, ⟨ik, ⟨ic, ix⟩, iv, ig⟩, false⟩ = false by simp [msgB, kindB, r]]
 go_enter Tryz.func144, Tryz.ntmps144
 go_wp2_with (first | (with_reducible refine box_tc rfl (N := 1) rfl (cs := #[.int .i64 3, .int .i64 mf, .int .i64 mt, .slice A ids.length c, .int .i64 my, .int .i64 ik, .int .i64 ic, .int .i64 ix, .int .i64 iv, .bool ig, .bool false]) (t := 126) ?hr ?_; (case hr => go_simp <;> rfl); intro g1 wg1 _ _ _) | (go_at_call 35; (with_reducible refine cM (place _ _) ?_); rintro e w' ⟨rfl, ⟨nd, rfl⟩⟩) | (with_reducible refine box_tc rfl (N := 3) rfl (cs := #[.int .i64 0, .int .i64 0, .int .i64 0, .slice none 0 0, .int .i64 0, .int .i64 0, .int .i64 0, .int .i64 0, .int .i64 0, .bool false, .bool false]) (t := 126) ?hr ?_; (case hr => go_simp <;> rfl); intro g3 wg3 _ _ _) | (go_at_call 180; (with_reducible refine cM (none_) ?_); rintro e wb ⟨rfl, hb⟩) | (go_at_call 36; (with_reducible refine cM (places_) ?_); rintro e w' ⟨rfl, ⟨nd, rfl⟩⟩) | (go_at_call 57; (with_reducible refine cM (itemMay_) ?_); rintro e wb ⟨rfl, hb⟩))
 go_ret
 exact ⟨rfl, belL⟩
set_option maxHeartbeats 2000000 in
theorem msgMay_k3c {mf : Int} {mt : Int} {my : Int} {ik : Int} {ic : Int} {ix : Int} {iv : Int} {ig : Bool} {A : Option Addr} {c : Nat} {ids : List Int} {w : World} [h : Sr kI w A ids.length c ids] (p1 : placeB mf = true) (p2 : placeB mt = true) (p3 : (mf == mt) = false) (q : noneB ids.length 0 ⟨ik, ⟨ic, ix⟩, iv, ig⟩ false = true) (r : placeB my = true) :
 Calls Tryz.prog 144 #[.agg #[.int .i64 3, .int .i64 mf, .int .i64 mt, .slice A ids.length c, .int .i64 my, .int .i64 ik, .int .i64 ic, .int .i64 ix, .int .i64 iv, .bool ig, .bool false]] w fun e w' => e = .returned (.bool (msgB ⟨3, mf, mt, ids, my, ⟨ik, ⟨ic, ix⟩, iv, ig⟩, false⟩)) ∧ BelL w w' := by
 have hs := sr_l h
 clear h
 rw [show msgB ⟨3, mf, mt, ids, my, ⟨ik, ⟨ic, ix⟩, iv, ig⟩, false⟩ = true by simp [msgB, kindB, p1, p2, p3, q, r]]
 go_enter Tryz.func144, Tryz.ntmps144
 go_wp2_with (first | (with_reducible refine box_tc rfl (N := 1) rfl (cs := #[.int .i64 3, .int .i64 mf, .int .i64 mt, .slice A ids.length c, .int .i64 my, .int .i64 ik, .int .i64 ic, .int .i64 ix, .int .i64 iv, .bool ig, .bool false]) (t := 126) ?hr ?_; (case hr => go_simp <;> rfl); intro g1 wg1 _ _ _) | (go_at_call 35; (with_reducible refine cM (place _ _) ?_); rintro e w' ⟨rfl, ⟨nd, rfl⟩⟩) | (with_reducible refine box_tc rfl (N := 3) rfl (cs := #[.int .i64 0, .int .i64 0, .int .i64 0, .slice none 0 0, .int .i64 0, .int .i64 0, .int .i64 0, .int .i64 0, .int .i64 0, .bool false, .bool false]) (t := 126) ?hr ?_; (case hr => go_simp <;> rfl); intro g3 wg3 _ _ _) | (go_at_call 180; (with_reducible refine cM (none_) ?_); rintro e wb ⟨rfl, hb⟩) | (go_at_call 36; (with_reducible refine cM (places_) ?_); rintro e w' ⟨rfl, ⟨nd, rfl⟩⟩) | (go_at_call 57; (with_reducible refine cM (itemMay_) ?_); rintro e wb ⟨rfl, hb⟩))
 go_ret
 exact ⟨rfl, belL⟩
set_option maxHeartbeats 2000000 in
theorem msgMay_k3d {mf : Int} {mt : Int} {my : Int} {ik : Int} {ic : Int} {ix : Int} {iv : Int} {ig : Bool} {A : Option Addr} {c : Nat} {ids : List Int} {w : World} [h : Sr kI w A ids.length c ids] (p1 : placeB mf = true) (p2 : placeB mt = true) (p3 : (mf == mt) = false) (q : noneB ids.length 0 ⟨0, ⟨0, 0⟩, 0, false⟩ false = false) :
 Calls Tryz.prog 144 #[.agg #[.int .i64 3, .int .i64 mf, .int .i64 mt, .slice A ids.length c, .int .i64 my, .int .i64 ik, .int .i64 ic, .int .i64 ix, .int .i64 iv, .bool ig, .bool true]] w fun e w' => e = .returned (.bool (msgB ⟨3, mf, mt, ids, my, ⟨ik, ⟨ic, ix⟩, iv, ig⟩, true⟩)) ∧ BelL w w' := by
 have hs := sr_l h
 clear h
 rw [show msgB ⟨3, mf, mt, ids, my, ⟨ik, ⟨ic, ix⟩, iv, ig⟩, true⟩ = false by simp [msgB, kindB, show noneB ids.length 0 z48 false = false from q]]
 go_enter Tryz.func144, Tryz.ntmps144
 go_wp2_with (first | (with_reducible refine box_tc rfl (N := 1) rfl (cs := #[.int .i64 3, .int .i64 mf, .int .i64 mt, .slice A ids.length c, .int .i64 my, .int .i64 ik, .int .i64 ic, .int .i64 ix, .int .i64 iv, .bool ig, .bool true]) (t := 126) ?hr ?_; (case hr => go_simp <;> rfl); intro g1 wg1 _ _ _) | (go_at_call 35; (with_reducible refine cM (place _ _) ?_); rintro e w' ⟨rfl, ⟨nd, rfl⟩⟩) | (with_reducible refine box_tc rfl (N := 3) rfl (cs := #[.int .i64 0, .int .i64 0, .int .i64 0, .slice none 0 0, .int .i64 0, .int .i64 0, .int .i64 0, .int .i64 0, .int .i64 0, .bool false, .bool false]) (t := 126) ?hr ?_; (case hr => go_simp <;> rfl); intro g3 wg3 _ _ _) | (go_at_call 180; (with_reducible refine cM (none_) ?_); rintro e wb ⟨rfl, hb⟩) | (go_at_call 36; (with_reducible refine cM (places_) ?_); rintro e w' ⟨rfl, ⟨nd, rfl⟩⟩) | (go_at_call 57; (with_reducible refine cM (itemMay_) ?_); rintro e wb ⟨rfl, hb⟩))
 go_ret
 exact ⟨rfl, belL⟩
set_option maxHeartbeats 2000000 in
theorem msgMay_k3e {mf : Int} {mt : Int} {my : Int} {ik : Int} {ic : Int} {ix : Int} {iv : Int} {ig : Bool} {A : Option Addr} {c : Nat} {ids : List Int} {w : World} [h : Sr kI w A ids.length c ids] (p1 : placeB mf = true) (p2 : placeB mt = true) (p3 : (mf == mt) = false) (q : noneB ids.length 0 ⟨0, ⟨0, 0⟩, 0, false⟩ false = true) (r : placeB my = false) :
 Calls Tryz.prog 144 #[.agg #[.int .i64 3, .int .i64 mf, .int .i64 mt, .slice A ids.length c, .int .i64 my, .int .i64 ik, .int .i64 ic, .int .i64 ix, .int .i64 iv, .bool ig, .bool true]] w fun e w' => e = .returned (.bool (msgB ⟨3, mf, mt, ids, my, ⟨ik, ⟨ic, ix⟩, iv, ig⟩, true⟩)) ∧ BelL w w' := by
 have hs := sr_l h
 clear h
 rw [show msgB ⟨3, mf, mt, ids, my, ⟨ik, ⟨ic, ix⟩, iv, ig⟩, true⟩ = false by simp [msgB, kindB, r]]
 go_enter Tryz.func144, Tryz.ntmps144
 go_wp2_with (first | (with_reducible refine box_tc rfl (N := 1) rfl (cs := #[.int .i64 3, .int .i64 mf, .int .i64 mt, .slice A ids.length c, .int .i64 my, .int .i64 ik, .int .i64 ic, .int .i64 ix, .int .i64 iv, .bool ig, .bool true]) (t := 126) ?hr ?_; (case hr => go_simp <;> rfl); intro g1 wg1 _ _ _) | (go_at_call 35; (with_reducible refine cM (place _ _) ?_); rintro e w' ⟨rfl, ⟨nd, rfl⟩⟩) | (with_reducible refine box_tc rfl (N := 3) rfl (cs := #[.int .i64 0, .int .i64 0, .int .i64 0, .slice none 0 0, .int .i64 0, .int .i64 0, .int .i64 0, .int .i64 0, .int .i64 0, .bool false, .bool false]) (t := 126) ?hr ?_; (case hr => go_simp <;> rfl); intro g3 wg3 _ _ _) | (go_at_call 180; (with_reducible refine cM (none_) ?_); rintro e wb ⟨rfl, hb⟩) | (go_at_call 36; (with_reducible refine cM (places_) ?_); rintro e w' ⟨rfl, ⟨nd, rfl⟩⟩) | (go_at_call 57; (with_reducible refine cM (itemMay_) ?_); rintro e wb ⟨rfl, hb⟩))
 go_ret
 exact ⟨rfl, belL⟩
set_option maxHeartbeats 2000000 in
theorem msgMay_k3f {mf : Int} {mt : Int} {my : Int} {ik : Int} {ic : Int} {ix : Int} {iv : Int} {ig : Bool} {A : Option Addr} {c : Nat} {ids : List Int} {w : World} [h : Sr kI w A ids.length c ids] (p1 : placeB mf = true) (p2 : placeB mt = true) (p3 : (mf == mt) = false) (q : noneB ids.length 0 ⟨0, ⟨0, 0⟩, 0, false⟩ false = true) (r : placeB my = true) (s : itemB ik ic ix iv ig = false) :
 Calls Tryz.prog 144 #[.agg #[.int .i64 3, .int .i64 mf, .int .i64 mt, .slice A ids.length c, .int .i64 my, .int .i64 ik, .int .i64 ic, .int .i64 ix, .int .i64 iv, .bool ig, .bool true]] w fun e w' => e = .returned (.bool (msgB ⟨3, mf, mt, ids, my, ⟨ik, ⟨ic, ix⟩, iv, ig⟩, true⟩)) ∧ BelL w w' := by
 have hs := sr_l h
 clear h
 rw [show msgB ⟨3, mf, mt, ids, my, ⟨ik, ⟨ic, ix⟩, iv, ig⟩, true⟩ = false by simp [msgB, kindB, itemOk, s]]
 go_enter Tryz.func144, Tryz.ntmps144
 go_wp2_with (first | (with_reducible refine box_tc rfl (N := 1) rfl (cs := #[.int .i64 3, .int .i64 mf, .int .i64 mt, .slice A ids.length c, .int .i64 my, .int .i64 ik, .int .i64 ic, .int .i64 ix, .int .i64 iv, .bool ig, .bool true]) (t := 126) ?hr ?_; (case hr => go_simp <;> rfl); intro g1 wg1 _ _ _) | (go_at_call 35; (with_reducible refine cM (place _ _) ?_); rintro e w' ⟨rfl, ⟨nd, rfl⟩⟩) | (with_reducible refine box_tc rfl (N := 3) rfl (cs := #[.int .i64 0, .int .i64 0, .int .i64 0, .slice none 0 0, .int .i64 0, .int .i64 0, .int .i64 0, .int .i64 0, .int .i64 0, .bool false, .bool false]) (t := 126) ?hr ?_; (case hr => go_simp <;> rfl); intro g3 wg3 _ _ _) | (go_at_call 180; (with_reducible refine cM (none_) ?_); rintro e wb ⟨rfl, hb⟩) | (go_at_call 36; (with_reducible refine cM (places_) ?_); rintro e w' ⟨rfl, ⟨nd, rfl⟩⟩) | (go_at_call 57; (with_reducible refine cM (itemMay_) ?_); rintro e wb ⟨rfl, hb⟩))
 go_ret
 exact ⟨rfl, belL⟩
set_option maxHeartbeats 2000000 in
theorem msgMay_k3g {mf : Int} {mt : Int} {my : Int} {ik : Int} {ic : Int} {ix : Int} {iv : Int} {ig : Bool} {A : Option Addr} {c : Nat} {ids : List Int} {w : World} [h : Sr kI w A ids.length c ids] (p1 : placeB mf = true) (p2 : placeB mt = true) (p3 : (mf == mt) = false) (q : noneB ids.length 0 ⟨0, ⟨0, 0⟩, 0, false⟩ false = true) (r : placeB my = true) (s : itemB ik ic ix iv ig = true) :
 Calls Tryz.prog 144 #[.agg #[.int .i64 3, .int .i64 mf, .int .i64 mt, .slice A ids.length c, .int .i64 my, .int .i64 ik, .int .i64 ic, .int .i64 ix, .int .i64 iv, .bool ig, .bool true]] w fun e w' => e = .returned (.bool (msgB ⟨3, mf, mt, ids, my, ⟨ik, ⟨ic, ix⟩, iv, ig⟩, true⟩)) ∧ BelL w w' := by
 have hs := sr_l h
 clear h
 rw [show msgB ⟨3, mf, mt, ids, my, ⟨ik, ⟨ic, ix⟩, iv, ig⟩, true⟩ = (ik == my) by simp [msgB, kindB, p1, p2, p3, show noneB ids.length 0 z48 false = true from q, r, itemOk, s]]
 go_enter Tryz.func144, Tryz.ntmps144
 go_wp2_with (first | (with_reducible refine box_tc rfl (N := 1) rfl (cs := #[.int .i64 3, .int .i64 mf, .int .i64 mt, .slice A ids.length c, .int .i64 my, .int .i64 ik, .int .i64 ic, .int .i64 ix, .int .i64 iv, .bool ig, .bool true]) (t := 126) ?hr ?_; (case hr => go_simp <;> rfl); intro g1 wg1 _ _ _) | (go_at_call 35; (with_reducible refine cM (place _ _) ?_); rintro e w' ⟨rfl, ⟨nd, rfl⟩⟩) | (with_reducible refine box_tc rfl (N := 3) rfl (cs := #[.int .i64 0, .int .i64 0, .int .i64 0, .slice none 0 0, .int .i64 0, .int .i64 0, .int .i64 0, .int .i64 0, .int .i64 0, .bool false, .bool false]) (t := 126) ?hr ?_; (case hr => go_simp <;> rfl); intro g3 wg3 _ _ _) | (go_at_call 180; (with_reducible refine cM (none_) ?_); rintro e wb ⟨rfl, hb⟩) | (go_at_call 36; (with_reducible refine cM (places_) ?_); rintro e w' ⟨rfl, ⟨nd, rfl⟩⟩) | (go_at_call 57; (with_reducible refine cM (itemMay_) ?_); rintro e wb ⟨rfl, hb⟩))
 go_ret
 exact ⟨rfl, belL⟩
set_option maxHeartbeats 2000000 in
theorem msgMay_z {mk : Int} {mf : Int} {mt : Int} {my : Int} {ik : Int} {ic : Int} {ix : Int} {iv : Int} {ig : Bool} {mh : Bool} {A : Option Addr} {c : Nat} {ids : List Int} {w : World} [h : Sr kI w A ids.length c ids] (p1 : placeB mf = true) (p2 : placeB mt = true) (p3 : (mf == mt) = false) (q0 : ¬ mk = 0) (q1 : ¬ mk = 1) (q2 : ¬ mk = 2) (q3 : ¬ mk = 3) :
 Calls Tryz.prog 144 #[.agg #[.int .i64 mk, .int .i64 mf, .int .i64 mt, .slice A ids.length c, .int .i64 my, .int .i64 ik, .int .i64 ic, .int .i64 ix, .int .i64 iv, .bool ig, .bool mh]] w fun e w' => e = .returned (.bool (msgB ⟨mk, mf, mt, ids, my, ⟨ik, ⟨ic, ix⟩, iv, ig⟩, mh⟩)) ∧ BelL w w' := by
 have hs := sr_l h
 clear h
 rw [show msgB ⟨mk, mf, mt, ids, my, ⟨ik, ⟨ic, ix⟩, iv, ig⟩, mh⟩ = false by simp [msgB, kindB, q0, q1, q2, q3]]
 have r0 : (mk == 0) = false := by simpa using q0
 have r1 : (mk == 1) = false := by simpa using q1
 have r2 : (mk == 2) = false := by simpa using q2
 have r3 : (mk == 3) = false := by simpa using q3
 clear q0 q1 q2 q3
 go_enter Tryz.func144, Tryz.ntmps144
 go_wp2_with (first | (with_reducible refine box_tc rfl (N := 1) rfl (cs := #[.int .i64 mk, .int .i64 mf, .int .i64 mt, .slice A ids.length c, .int .i64 my, .int .i64 ik, .int .i64 ic, .int .i64 ix, .int .i64 iv, .bool ig, .bool mh]) (t := 126) ?hr ?_; (case hr => go_simp <;> rfl); intro g1 wg1 _ _ _) | (go_at_call 35; (with_reducible refine cM (place _ _) ?_); rintro e w' ⟨rfl, ⟨nd, rfl⟩⟩) | (with_reducible refine box_tc rfl (N := 3) rfl (cs := #[.int .i64 0, .int .i64 0, .int .i64 0, .slice none 0 0, .int .i64 0, .int .i64 0, .int .i64 0, .int .i64 0, .int .i64 0, .bool false, .bool false]) (t := 126) ?hr ?_; (case hr => go_simp <;> rfl); intro g3 wg3 _ _ _) | (go_at_call 180; (with_reducible refine cM (none_) ?_); rintro e wb ⟨rfl, hb⟩) | (go_at_call 36; (with_reducible refine cM (places_) ?_); rintro e w' ⟨rfl, ⟨nd, rfl⟩⟩) | (go_at_call 57; (with_reducible refine cM (itemMay_) ?_); rintro e wb ⟨rfl, hb⟩))
 go_ret
 exact ⟨rfl, belL⟩
theorem msgMay_ {mk mf mt my ik ic ix iv : Int} {ig mh : Bool} {A : Option Addr} {n c : Nat} {ids : List Int} {w : World} [h : Sr kI w A n c ids] :
 Calls Tryz.prog 144 #[.agg #[.int .i64 mk, .int .i64 mf, .int .i64 mt, .slice A n c, .int .i64 my, .int .i64 ik, .int .i64 ic, .int .i64 ix, .int .i64 iv, .bool ig, .bool mh]] w fun e w' => e = .returned (.bool (msgB ⟨mk, mf, mt, ids, my, ⟨ik, ⟨ic, ix⟩, iv, ig⟩, mh⟩)) ∧ BelL w w' := by
 obtain rfl := h.len
 cases p1 : placeB mf
 ·exact msgMay_a p1
 cases p2 : placeB mt
 ·exact msgMay_b p1 p2
 cases p3 : (mf == mt)
 ·by_cases q0 : mk = 0
  ·subst q0
   cases q : noneB 0 my ⟨ik, ⟨ic, ix⟩, iv, ig⟩ mh
   ·exact msgMay_k0a p1 p2 p3 q
   by_cases r : ids.length ≤ 16
   ·exact msgMay_k0c p1 p2 p3 q r
   ·exact msgMay_k0b p1 p2 p3 q r
  by_cases q1 : mk = 1
  ·subst q1
   cases q : noneB ids.length my ⟨0, ⟨0, 0⟩, 0, false⟩ mh
   ·exact msgMay_k1a p1 p2 p3 q
   ·exact msgMay_k1b p1 p2 p3 q
  by_cases q2 : mk = 2
  ·subst q2
   cases q : noneB ids.length 0 ⟨ik, ⟨ic, ix⟩, iv, ig⟩ mh
   ·exact msgMay_k2a p1 p2 p3 q
   ·exact msgMay_k2b p1 p2 p3 q
  by_cases q3 : mk = 3
  ·subst q3
   cases mh
   ·cases q : noneB ids.length 0 ⟨ik, ⟨ic, ix⟩, iv, ig⟩ false
    ·exact msgMay_k3a p1 p2 p3 q
    cases r : placeB my
    ·exact msgMay_k3b p1 p2 p3 q r
    ·exact msgMay_k3c p1 p2 p3 q r
   ·cases q : noneB ids.length 0 ⟨0, ⟨0, 0⟩, 0, false⟩ false
    ·exact msgMay_k3d p1 p2 p3 q
    cases r : placeB my
    ·exact msgMay_k3e p1 p2 p3 q r
    cases s : itemB ik ic ix iv ig
    ·exact msgMay_k3f p1 p2 p3 q r s
    ·exact msgMay_k3g p1 p2 p3 q r s
  exact msgMay_z p1 p2 p3 q0 q1 q2 q3
 ·exact msgMay_c p1 p2 p3
end
section
attribute [local go_sem] cell_tc2
def tg {α : Type} (k : Kd α) (w0 : World) : Kd (Bool × α) where
 sz := k.sz
 E := k.E
 K := fun w x cs => if x.1 then k.K w x.2 cs else k.K w0 x.2 cs
 M := fun w b ok x cs => if x.1 then k.M w b ok x.2 cs else k.K w0 x.2 cs
 K_len := fun {w x cs} h => by rcases x with ⟨_ | _, x⟩ <;> exact k.K_len h
 K_one := fun {w x cs} h => by rcases x with ⟨_ | _, x⟩ <;> exact k.K_one h
 K_below := fun {w w1 x cs} hb h => by
  rcases x with ⟨_ | _, x⟩
  ·exact h
  ·exact k.K_below hb h
 K_of_M := fun {w b ok x cs} h => by
  rcases x with ⟨_ | _, x⟩
  ·exact h
  ·exact k.K_of_M h
 M_mono := fun {w b ok ok' x cs} hok h => by
  rcases x with ⟨_ | _, x⟩
  ·exact h
  ·exact k.M_mono hok h
 M_bound := fun {w b ok x cs} h => by
  rcases x with ⟨_ | _, x⟩
  ·exact h
  ·exact k.M_bound h
 M_move := fun {w w1 b ok x cs} hm h => by
  rcases x with ⟨_ | _, x⟩
  ·exact h
  ·exact k.M_move hm h
 M_lower := fun {w b b' ok x cs} hb h => by
  rcases x with ⟨_ | _, x⟩
  ·exact h
  ·exact k.M_lower hb h
theorem tg_done {α : Type} {k : Kd α} {w0 W : World} {e b : Nat} {ok : Nat → Prop} {v : Value} {xs : List α} (h : (tg k w0).R e W b ok v (xs.map fun x => (true, x))) : k.R e W b ok v xs := by
 obtain ⟨h0, inner, ho, hr⟩ := h
 refine ⟨h0, inner, by rw [List.length_map] at ho; exact ho, ⟨by have := hr.1; rw [List.length_map] at this; exact this, fun j p hj => ?_⟩⟩
 exact hr.2 j (true, p) (by rw [List.getElem?_map, hj]; rfl)
theorem tg_C {α : Type} {k : Kd α} {w : World} {A : Option Addr} {n : Nat} {xs : List α} (h : k.C w A n xs) : ReadsRow (fun (x : Bool × α) cs => x.1 = false ∧ k.K w x.2 cs) (tg k w).sz w A n (xs.map fun x => (false, x)) := by
 refine ⟨by rw [List.length_map]; exact h.1, h.2.1, fun hn => ?_⟩
 obtain ⟨ad, e, hc⟩ := h.2.2 hn
 refine ⟨ad, e, fun j p hj => ?_⟩
 rw [List.getElem?_map] at hj
 obtain ⟨q, hq, rfl⟩ := Option.map_eq_some_iff.1 hj
 obtain ⟨c, hc1, hc2, hc3⟩ := hc j q hq
 exact ⟨c, hc1, ⟨rfl, hc2⟩, hc3⟩
theorem reads_below {α : Type} {R : α → List Value → Prop} {s : Nat} {w W : World} {A : Option Addr} {n : Nat} {xs : List α} (h : ReadsRow R s w A n xs) (hb : Below w.heap.size w W) : ReadsRow R s W A n xs := ReadsRow.imp_ h hb (fun _ _ h => h)
instance : ElT k40 40 := inferInstance
instance tg_el {α : Type} {k : Kd α} {w : World} {e : Nat} [h : ElT k e] : ElT (tg k w) e := ⟨h.out⟩
theorem lit0 {α : Type} (k : Kd α) {e : Nat} {W w0 : World} {g : Nat} (h : BlkL W g #[] e) (hg : w0.heap.size ≤ g) : FrL k e W w0.heap.size Any (some ⟨g, 0, none⟩) 0 0 ([] : List α) :=
 ⟨rfl, Nat.le_refl 0, ⟨fun _ _ => trivial, [], ⟨by simp, .inr ⟨g, 0, #[], rfl, hg, h.out, Nat.le_refl 0, by simp [maxLen], by simp, by simp⟩⟩, Reps.none _ _⟩⟩
set_option maxHeartbeats 2000000 in
theorem cloneMsg_ {A : Option Addr} {n c : Nat} {l : List S126} {w0 w : World} [h : Sr k126 w0 A n c l] [hw : Bel w0 w] (hn : n ≤ 100000) :
 Calls Tryz.prog 159 #[.slice A n c] w fun e w' => ∃ A' c', e = .returned (.slice A' n c') ∧ FrL (tg k126 w0) 126 w' w.heap.size (Under w'.heap.size) A' n c' (l.map fun x => (false, x)) ∧ BelL w w' := by
 have HS := sr_l h
 have HL := Aside0.mk h.len
 have HC := Aside0.mk (tg_C h.C)
 cases A with
 | none =>
   have hl : l = [] := by
    cases l with
    | nil => rfl
    | cons x xs => obtain ⟨ad, e, _⟩ := h.C.2.2 (by have := h.len; simp at this; omega); cases e
   subst hl
   have h0 : n = 0 := h.len.symm
   subst h0
   clear h HS
   have hnil := fun w => Lib.run_eql_slice_nil (P := Tryz.prog) w 59 126 none 0 c 0 0 Tryz.underlying59
   go_enter Tryz.func159, Tryz.ntmps159
   go_wp2
   go_ret
   exact ⟨_, _, rfl, frl_nil, belL⟩
 | some A =>
   clear h HS
   have hnil := fun w => Lib.run_eql_slice_nil (P := Tryz.prog) w 59 126 (some A) n c 0 0 Tryz.underlying59
   go_enter Tryz.func159, Tryz.ntmps159
   go_wp2_with (first | (with_reducible refine lit_tc rfl (N := 5) rfl (cs := #[]) (t := 126) (m := 0) ?hr ?_; (case hr => go_simp <;> rfl); intro g1 wg1 _ _ _) | ((with_reducible refine gate_builtin (b := .append) (xs := #[.tmp 5, .tmp 6]) rfl ?_); (refine app_gen (k := tg k126 w0) (e := 126) (b := w.heap.size) (S := Any) (A := some ⟨g1, 0, none⟩) (n := 0) (c := 0) (xs := []) (B := some A) (m := n) (d := c) (ys := l.map fun x => (false, x)) (t := 59) (okp := fun _ => False) (Rr := fun x cs => x.1 = false ∧ k126.K w0 x.2 cs) (by rfl) (by rfl) Tryz.underlying59 (by rfl) (by rfl) inferInstance (fr_here (h := lit0 (tg k126 w0) (w0 := w) (by assumption) GE.out)) (reads_below HC.out Bel.out) (fun x cs hx => by rcases x with ⟨_ | _, x⟩; exact hx.2; exact Bool.noConfusion hx.1) (fun _ h => h.elim) LeB.out (by omega) ?_); intro A9 c9 w9 hF9 hb9 hg9))
   go_ret
   exact ⟨_, _, rfl, frl_eq (n' := 0 + n) (Nat.zero_add n) rfl, belL⟩
set_option maxHeartbeats 2000000 in
theorem cloneNode_ {A : Option Addr} {n c : Nat} {l : List S40} {w0 w : World} [h : Sr k40 w0 A n c l] [hw : Bel w0 w] (hn : n ≤ 100000) :
 Calls Tryz.prog 117 #[.slice A n c] w fun e w' => ∃ A' c', e = .returned (.slice A' n c') ∧ FrL (tg k40 w0) 40 w' w.heap.size (Under w'.heap.size) A' n c' (l.map fun x => (false, x)) ∧ BelL w w' := by
 have HS := sr_l h
 have HL := Aside0.mk h.len
 have HC := Aside0.mk (tg_C h.C)
 cases A with
 | none =>
   have hl : l = [] := by
    cases l with
    | nil => rfl
    | cons x xs => obtain ⟨ad, e, _⟩ := h.C.2.2 (by have := h.len; simp at this; omega); cases e
   subst hl
   have h0 : n = 0 := h.len.symm
   subst h0
   clear h HS
   have hnil := fun w => Lib.run_eql_slice_nil (P := Tryz.prog) w 57 40 none 0 c 0 0 Tryz.underlying57
   go_enter Tryz.func117, Tryz.ntmps117
   go_wp2
   go_ret
   exact ⟨_, _, rfl, frl_nil, belL⟩
 | some A =>
   clear h HS
   have hnil := fun w => Lib.run_eql_slice_nil (P := Tryz.prog) w 57 40 (some A) n c 0 0 Tryz.underlying57
   go_enter Tryz.func117, Tryz.ntmps117
   go_wp2_with (first | (with_reducible refine lit_tc rfl (N := 5) rfl (cs := #[]) (t := 40) (m := 0) ?hr ?_; (case hr => go_simp <;> rfl); intro g1 wg1 _ _ _) | ((with_reducible refine gate_builtin (b := .append) (xs := #[.tmp 5, .tmp 6]) rfl ?_); (refine app_gen (k := tg k40 w0) (e := 40) (b := w.heap.size) (S := Any) (A := some ⟨g1, 0, none⟩) (n := 0) (c := 0) (xs := []) (B := some A) (m := n) (d := c) (ys := l.map fun x => (false, x)) (t := 57) (okp := fun _ => False) (Rr := fun x cs => x.1 = false ∧ k40.K w0 x.2 cs) (by rfl) (by rfl) Tryz.underlying57 (by rfl) (by rfl) inferInstance (fr_here (h := lit0 (tg k40 w0) (w0 := w) (by assumption) GE.out)) (reads_below HC.out Bel.out) (fun x cs hx => by rcases x with ⟨_ | _, x⟩; exact hx.2; exact Bool.noConfusion hx.1) (fun _ h => h.elim) LeB.out (by omega) ?_); intro A9 c9 w9 hF9 hb9 hg9))
   go_ret
   exact ⟨_, _, rfl, frl_eq (n' := 0 + n) (Nat.zero_add n) rfl, belL⟩
end
section
attribute [local go_sem] cell_tc2 frozen_row
theorem tg_at {α : Type} {k : Kd α} {w0 W : World} {e b : Nat} {S : Nat → Prop} {g n c : Nat} {l : List (Bool × α)} (h : Fr (tg k w0) e W b S (some ⟨g, 0, none⟩) n c l) (i : Nat) (hi : i < l.length) :
 ∃ cs : List Value, cs.length = k.sz ∧ (tg k w0).K W l[i] cs ∧ ∀ j u, cs[j]? = some u → W.cell? ⟨g, i * k.sz + j, none⟩ = some u := by
 have hq : Sr (tg k w0) W (some ⟨g, 0, none⟩) n c l := sr_fr
 obtain ⟨ad, e, hc⟩ := hq.C.2.2 (by have := h.len; omega)
 obtain rfl := Option.some.inj e
 obtain ⟨cs, h1, h2, h3⟩ := hc i l[i] (List.getElem?_eq_getElem hi)
 refine ⟨cs, h1, h2, fun j u hj => ?_⟩
 have := h3 j u hj
 rw [Addr.add_lit, Nat.zero_add] at this
 exact this
theorem msg_el {w0 W : World} {b : Nat} {S : Nat → Prop} {g n c : Nat} {l : List (Bool × S126)} {m : S126} (h : Fr (tg k126 w0) 126 W b S (some ⟨g, 0, none⟩) n c l) (i : Nat) (hi : i < l.length) (hf : l[i] = (false, m)) :
 ∃ A3 c3, CellL W ⟨g, i * 11 + 3, none⟩ (.slice A3 m.f3.length c3) ∧ SrL kI w0 A3 m.f3.length c3 m.f3 := by
 obtain ⟨cs, h1, h2, h3⟩ := tg_at h i hi
 rw [hf] at h2
 have h2' : k126.K w0 m cs := h2
 obtain ⟨A3, c3, rfl, hl, hC⟩ := k126_open h2'
 exact ⟨A3, c3, ⟨h3 3 _ rfl⟩, ⟨rfl, hl, hC⟩⟩
theorem msg_set {w0 W : World} {b b2 : Nat} {S S2 : Nat → Prop} {g n c n9 c9 : Nat} {A9 : Option Addr} {l : List (Bool × S126)} {m : S126} (h : Fr (tg k126 w0) 126 W b S (some ⟨g, 0, none⟩) n c l) (i : Nat) (hi : i < l.length) (hf : l[i] = (false, m))
 (hF : Fr kI 3 W b2 S2 A9 n9 c9 m.f3) (hb2 : b ≤ b2) (hg2 : g < b2) (hb : b ≤ W.heap.size) :
 FrL (tg k126 w0) 126 (W.setCell ⟨g, i * 11 + 3, none⟩ (.slice A9 n9 c9)) b Any (some ⟨g, 0, none⟩) n c (l.set i (true, m)) ∧ BbL b W (W.setCell ⟨g, i * 11 + 3, none⟩ (.slice A9 n9 c9)) := by
 have hl := h.len
 obtain ⟨cs, h1, h2, h3⟩ := tg_at h i hi
 rw [hf] at h2
 have h2' : k126.K w0 m cs := h2
 obtain ⟨A3, c3, rfl, hl3, hC⟩ := k126_open h2'
 have hn9 := hF.len
 subst hn9
 have hR9 : kI.R 3 W b (fun j => b2 ≤ j) (.slice A9 m.f3.length c9) m.f3 := Kd.R_mono (Kd.R_lower (Kd.R_bound hF.R) hb2) (fun j hj => hj.2.1)
 have hs := Kd.R_seg (d := tg k126 w0) (okp := fun j => b2 ≤ j) h.any (i : Int) (by omega) (by omega) (j := 3) (seg := [.slice A9 m.f3.length c9]) h1 (fun j u hj => h3 j u hj) (show 3 + 1 ≤ 11 by decide) (x' := (true, m))
  (show k126.M W b (fun j => b2 ≤ j) m _ from k126_mkM W b _ m hR9) (fun j hj => ⟨trivial, by omega⟩)
 have hg : b ≤ g := Kd.R_base h.any g rfl
 refine ⟨⟨by rw [List.length_set]; exact hl, h.le, hs.1⟩, ⟨hb, ?_⟩⟩
 have hgr := hs.2
 exact ⟨hgr.os, hgr.tape, hgr.output, hgr.size, fun k hk => hgr.block k (by omega) (fun e => by injection e with e; omega)⟩
instance lt_row {W : World} {g : Nat} [h : Row W g] : LtB g W.heap.size := ⟨by obtain ⟨a, b, e⟩ := h.out; exact blk_lt e⟩
def marks {α : Type} (xs : List α) (i : Nat) : List (Bool × α) := (xs.take i).map (fun x => (true, x)) ++ (xs.drop i).map (fun x => (false, x))
theorem marks_len {α : Type} (xs : List α) (i : Nat) : (marks xs i).length = xs.length := by unfold marks; simp; omega
theorem marks_zero {α : Type} (xs : List α) : marks xs 0 = xs.map fun x => (false, x) := by simp [marks]
theorem marks_all {α : Type} (xs : List α) : marks xs xs.length = xs.map fun x => (true, x) := by simp [marks]
theorem marks_at {α : Type} {xs : List α} {i : Nat} (h : i < xs.length) : (marks xs i)[i]'(by rw [marks_len]; exact h) = (false, xs[i]) := by
 unfold marks
 rw [List.getElem_append_right (by simp; omega)]
 simp [Nat.min_eq_left (Nat.le_of_lt h)]
theorem marks_next {α : Type} {xs : List α} {i : Nat} (h : i < xs.length) : (marks xs i).set i (true, xs[i]) = marks xs (i + 1) := by
 unfold marks
 have e1 : ((xs.take i).map fun x => (true, x)).length = i := by rw [List.length_map, List.length_take]; omega
 rw [List.set_append_right _ _ (by omega), e1, Nat.sub_self, List.drop_eq_getElem_cons h, List.map_cons, List.set_cons_zero, List.take_succ_eq_append_getElem h, List.map_append]
 simp
theorem frl_any {α : Type} {k : Kd α} {W : World} {A : Option Addr} {n c e b : Nat} {S : Nat → Prop} {xs : List α} (h : FrL k e W b S A n c xs) : FrL k e W b Any A n c xs := ⟨h.len, h.le, Kd.R_mono h.R (fun _ _ => trivial)⟩
theorem tg_nil {α : Type} {k : Kd α} {w0 W : World} {e b : Nat} {S : Nat → Prop} {A : Option Addr} {c : Nat} (h : Fr (tg k w0) e W b S A 0 c ([].map fun x => (false, x))) : Fr k e W b S A 0 c [] := ⟨rfl, h.le, by
 obtain ⟨h0, inner, ho, hr⟩ := h.R
 exact ⟨h0, inner, ho, hr.1, fun j p hj => by simp at hj⟩⟩
theorem frl_map {α : Type} {k : Kd α} {W : World} {A : Option Addr} {n c e b : Nat} {S : Nat → Prop} {xs : List α} (h : Fr k e W b S A n c xs) {b' : Nat} [l : LeB b' b] : FrL k e W b' (Under W.heap.size) A n c xs := frl (h := h)
def copyOk (ms : List S126) : Prop := ∀ m ∈ ms, m.f3.length ≤ 1000000
set_option maxRecDepth 100000 in
set_option maxHeartbeats 2000000 in
theorem queueCopy_ {A : Option Addr} {n c : Nat} {ms : List S126} {w : World} [h : Sr k126 w A n c ms] (hn : n ≤ 100000) (hm : copyOk ms) :
 Calls Tryz.prog 119 #[.slice A n c] w fun e w' => ∃ A' c', e = .returned (.slice A' n c') ∧ FrL k126 126 w' w.heap.size (Under w'.heap.size) A' n c' ms ∧ BelL w w' := by
 obtain rfl := h.len
 have HS := sr_l h
 have HM := Aside0.mk hm
 clear h hm
 by_cases h0 : ms.length = 0
 ·obtain rfl : ms = [] := List.eq_nil_of_length_eq_zero h0
  clear h0
  go_enter Tryz.func119, Tryz.ntmps119
  go_wp2_with (first | (go_at_call 159; (with_reducible refine cM (cloneMsg_ (w0 := w) (n := 0) (l := []) (by omega)) ?_); rintro e w1 ⟨A1, c1, rfl, hF1, hb1⟩))
  go_loopg [4, 9] 0 (fun kq v4 v9 w' => v9 = .int .i64 0 ∧ BelL w1 w')
  case atStart => exact ⟨rfl, belL⟩
  case round =>
   obtain ⟨rfl, hbr⟩ := hrel
   go_wp2
   go_ret
   have hfr : Fr (tg k126 w) 126 _ w.heap.size (Under w1.heap.size) A1 0 c1 ([].map fun x => (false, x)) := fr_step (h := fr_here (h := hF1)) (g := hbr)
   exact ⟨_, _, rfl, frl_map (tg_nil hfr), belL⟩
 ·go_enter Tryz.func119, Tryz.ntmps119
  go_wp2_with (first | (go_at_call 159; (with_reducible refine cM (cloneMsg_ (w0 := w) (by omega)) ?_); rintro e w1 ⟨A1, c1, rfl, hF1, hb1⟩; obtain ⟨gr, rfl, hrow, hgr⟩ := fr_form hF1 (by omega)))
  have hge : GEL w gr := ⟨hgr⟩
  go_loopg [4, 9] ms.length (fun kq v4 v9 w' => ∃ i : Nat, v9 = .int .i64 i ∧ i ≤ ms.length ∧ kq = ms.length - i ∧ FrL (tg k126 w) 126 w' w.heap.size Any (some ⟨gr, 0, none⟩) ms.length c1 (marks ms i) ∧ BelL w w' ∧ RowL w' gr)
  case atStart => exact ⟨0, rfl, Nat.zero_le _, rfl, by rw [marks_zero]; exact frl_any hF1, belL, ⟨Row.out⟩⟩
  case round =>
   obtain ⟨i, rfl, hi, rfl, hF, hbr, hrow2⟩ := hrel
   by_cases hlt : i < ms.length
   ·have hlm : i < (marks ms i).length := by rw [marks_len]; exact hlt
    have hma := marks_at hlt
    obtain ⟨A3, c3, hc3, hs3⟩ := msg_el (fr_here (h := hF)) i hlm hma
    have hm3 : ms[i].f3.length ≤ 1000000 := HM.out _ (List.getElem_mem hlt)
    have HF := Aside0.mk hF
    have HMA := Aside0.mk hma
    have HMN := Aside0.mk (marks_next hlt)
    have HLM := Aside0.mk hlm
    clear hma hlm
    go_wp2_with (first | (go_at_call 50; (with_reducible refine cM (cloneInt_ hm3) ?_); rintro e w9 ⟨A9, c9, rfl, hF9, hb9⟩))
    have HW := Aside0.mk (msg_set (W := w9) (b := w.heap.size) (S := Any) (fr_step (h := fr_here (h := HF.out)) (g := inferInstance)) i HLM.out HMA.out (fr_here (h := hF9)) (LeB.out) (LtB.out) LeB.out)
    go_roundg (ms.length - (i + 1))
    case measure => omega
    case rel => exact ⟨i + 1, by go_num, by omega, rfl, by rw [← HMN.out]; exact HW.out.1, belL, ⟨Row.out⟩⟩
   ·obtain rfl : i = ms.length := by omega
    rw [marks_all] at hF
    have hF3 : FrL k126 126 wr w.heap.size Any (some ⟨gr, 0, none⟩) ms.length c1 ms := ⟨rfl, hF.le, tg_done hF.R⟩
    clear hF
    go_wp2
    go_ret
    exact ⟨_, _, rfl, frl, belL⟩
end
section
attribute [local go_sem] cell_tc2
theorem msgOdd_ {mk mf mt my ik ic ix iv : Int} {ig mh : Bool} {A : Option Addr} {n c : Nat} {ids : List Int} {w : World} [h : Sr kI w A n c ids] : Calls Tryz.prog 143 #[.agg #[.int .i64 mk, .int .i64 mf, .int .i64 mt, .slice A n c, .int .i64 my, .int .i64 ik, .int .i64 ic, .int .i64 ix, .int .i64 iv, .bool ig, .bool mh]] w fun e w' => e = .returned (.bool (!msgB ⟨mk, mf, mt, ids, my, ⟨ik, ⟨ic, ix⟩, iv, ig⟩, mh⟩)) ∧ BelL w w' := by
 obtain rfl := h.len
 have hs := sr_l h
 clear h
 go_enter Tryz.func143, Tryz.ntmps143
 go_wp2_with (first | (with_reducible refine box_tc rfl (N := 1) rfl (cs := #[.int .i64 mk, .int .i64 mf, .int .i64 mt, .slice A ids.length c, .int .i64 my, .int .i64 ik, .int .i64 ic, .int .i64 ix, .int .i64 iv, .bool ig, .bool mh]) (t := 126) ?hr ?_; (case hr => go_simp <;> rfl); intro g1 wg1 _ _ _) | (go_at_call 144; (with_reducible refine cM (msgMay_) ?_); rintro e wb ⟨rfl, hb⟩))
 go_ret
 exact ⟨rfl, belL⟩
def badMsgs (l : List S126) : Bool := l.any fun m => !msgB m
def toldB (x : S77) : Bool := placeB x.f0 && placeB x.f2 && (x.f1 || x.f2 == 0)
def badTolds (l : List S77) : Bool := l.any fun x => !toldB x
theorem odd_ {a v : Int} {g : Bool} {w : World} : Calls Tryz.prog 152 #[.agg #[.int .i64 a, .bool g, .int .i64 v]] w fun e w' => e = .returned (.bool (!toldB ⟨a, g, v⟩)) ∧ BelL w w' := by
 cases h1 : placeB a
 ·rw [show toldB ⟨a, g, v⟩ = false by simp [toldB, h1]]
  go_enter Tryz.func152, Tryz.ntmps152
  go_wp2_with (first | (with_reducible refine box_tc rfl (N := 1) rfl (cs := #[.int .i64 a, .bool g, .int .i64 v]) (t := 77) ?hr ?_; (case hr => go_simp <;> rfl); intro g1 wg1 _ _ _) | (go_at_call 106; (with_reducible refine cM (byte _ _) ?_); rintro e w' ⟨rfl, ⟨nd, rfl⟩⟩))
  go_ret
  exact ⟨rfl, belL⟩
 ·cases h2 : placeB v
  ·rw [show toldB ⟨a, g, v⟩ = false by simp [toldB, h2]]
   go_enter Tryz.func152, Tryz.ntmps152
   go_wp2_with (first | (with_reducible refine box_tc rfl (N := 1) rfl (cs := #[.int .i64 a, .bool g, .int .i64 v]) (t := 77) ?hr ?_; (case hr => go_simp <;> rfl); intro g1 wg1 _ _ _) | (go_at_call 106; (with_reducible refine cM (byte _ _) ?_); rintro e w' ⟨rfl, ⟨nd, rfl⟩⟩))
   go_ret
   exact ⟨rfl, belL⟩
  ·cases g
   ·rw [show toldB ⟨a, false, v⟩ = (v == 0) by simp [toldB, h1, h2]]
    go_enter Tryz.func152, Tryz.ntmps152
    go_wp2_with (first | (with_reducible refine box_tc rfl (N := 1) rfl (cs := #[.int .i64 a, .bool false, .int .i64 v]) (t := 77) ?hr ?_; (case hr => go_simp <;> rfl); intro g1 wg1 _ _ _) | (go_at_call 106; (with_reducible refine cM (byte _ _) ?_); rintro e w' ⟨rfl, ⟨nd, rfl⟩⟩))
    go_ret
    exact ⟨rfl, belL⟩
   ·rw [show toldB ⟨a, true, v⟩ = true by simp [toldB, h1, h2]]
    go_enter Tryz.func152, Tryz.ntmps152
    go_wp2_with (first | (with_reducible refine box_tc rfl (N := 1) rfl (cs := #[.int .i64 a, .bool true, .int .i64 v]) (t := 77) ?hr ?_; (case hr => go_simp <;> rfl); intro g1 wg1 _ _ _) | (go_at_call 106; (with_reducible refine cM (byte _ _) ?_); rintro e w' ⟨rfl, ⟨nd, rfl⟩⟩))
    go_ret
    exact ⟨rfl, belL⟩
set_option maxHeartbeats 2000000 in
theorem badMsgIdx_  {A : Option Addr} {n c : Nat} {l : List S126} {w : World} [h : Sr k126 w A n c l]  :
 Calls Tryz.prog 181 #[.slice A n c, .func (.func 143) #[] #[]] w fun e w' => ∃ q : Int, e = .returned (.int .i64 q) ∧ decide (0 ≤ q) = l.any (fun m => !msgB m) ∧ BelL w w' := by
 obtain rfl := h.len
 have HS := sr_l h
 have hlen : l.length ≤ 9223372036854775807 := h.C.2.1
 clear h
 go_enter Tryz.func181, Tryz.ntmps181
 go_wp2
 go_loopg [5, 8] l.length (fun kq v5 v8 w' => ∃ i : Nat, v8 = .int .i64 i ∧ i ≤ l.length ∧ kq = l.length - i ∧ Aside0 (∀ j (h : j < l.length), j < i → (fun m => !msgB m) l[j] = false) ∧ BelL w w')
 case atStart => exact ⟨0, rfl, Nat.zero_le _, rfl, ⟨fun j h hj => absurd hj (Nat.not_lt_zero _)⟩, belL⟩
 case round =>
  obtain ⟨i, rfl, hi, rfl, HA, hbr⟩ := hrel
  by_cases hlt : i < l.length
  ·obtain ⟨ad, A3, c3, rfl, hx0, hx1, hx2, hx3, hx4, hx5, hx6, hx7, hx8, hx9, hx10, hs3⟩ := el_T126 (W := wr) (A := A) (n := l.length) (c := c) (l := l) i hlt
   cases hpi : (fun m => !msgB m) l[i]
   ·have HPI := Aside0.mk hpi
    go_wp2_with (first | (go_at_call 143; (with_reducible refine Calls.mono msgOdd_ ?_); rintro e w5 ⟨rfl, hb⟩; rw [show (!msgB ⟨l[i].f0, l[i].f1, l[i].f2, l[i].f3, l[i].f4, ⟨l[i].f5.f0, ⟨l[i].f5.f1.f0, l[i].f5.f1.f1⟩, l[i].f5.f2, l[i].f5.f3⟩, l[i].f6⟩) = _ from hpi]))
    go_roundg (l.length - (i + 1))
    case measure => omega
    case rel =>
     exact ⟨i + 1, by go_num, by omega, rfl, ⟨fun j h hj => by
      rcases Nat.lt_or_eq_of_le (Nat.le_of_lt_succ hj) with h2 | h2
      ·exact HA.out j h h2
      ·subst h2; exact HPI.out⟩, belL⟩
   ·have HT := Aside0.mk (show l.any (fun m => !msgB m) = true from List.any_eq_true.2 ⟨l[i], List.getElem_mem hlt, hpi⟩)
    go_wp2_with (first | (go_at_call 143; (with_reducible refine Calls.mono msgOdd_ ?_); rintro e w5 ⟨rfl, hb⟩; rw [show (!msgB ⟨l[i].f0, l[i].f1, l[i].f2, l[i].f3, l[i].f4, ⟨l[i].f5.f0, ⟨l[i].f5.f1.f0, l[i].f5.f1.f1⟩, l[i].f5.f2, l[i].f5.f3⟩, l[i].f6⟩) = _ from hpi]))
    go_ret
    exact ⟨(i : Int), rfl, by rw [HT.out]; exact decide_eq_true (by omega), belL⟩
  ·have HT := Aside0.mk (show l.any (fun m => !msgB m) = false by
    rw [List.any_eq_false]
    intro x hx
    obtain ⟨j, hj, rfl⟩ := List.getElem_of_mem hx
    have := HA.out j hj (by omega)
    exact fun hh => Bool.false_ne_true (this.symm.trans hh))
   go_wp2
   go_ret
   exact ⟨-1, rfl, by rw [HT.out]; rfl, belL⟩
theorem badMsg_  {A : Option Addr} {n c : Nat} {l : List S126} {w : World} [h : Sr k126 w A n c l]  :
 Calls Tryz.prog 145 #[.slice A n c, .func (.func 143) #[] #[]] w fun e w' => e = .returned (.bool (badMsgs l)) ∧ BelL w w' := by
 have HC := Aside0.mk (@badMsgIdx_  A n c l w h )
 clear h
 go_enter Tryz.func145, Tryz.ntmps145
 go_wp2_with (first | (go_at_call 181; (with_reducible refine Calls.mono HC.out ?_); rintro e wb ⟨q, rfl, hk, hb⟩; have HK := Aside0.mk hk; clear hk))
 go_ret
 exact ⟨by rw [show badMsgs l = decide (0 ≤ q) from HK.out.symm]; rfl, belL⟩
set_option maxHeartbeats 2000000 in
theorem badToldIdx_  {A : Option Addr} {n c : Nat} {l : List S77} {w : World} [h : Sr k77 w A n c l]  :
 Calls Tryz.prog 183 #[.slice A n c, .func (.func 152) #[] #[]] w fun e w' => ∃ q : Int, e = .returned (.int .i64 q) ∧ decide (0 ≤ q) = l.any (fun x => !toldB x) ∧ BelL w w' := by
 obtain rfl := h.len
 have HS := sr_l h
 have hlen : l.length ≤ 9223372036854775807 := h.C.2.1
 clear h
 go_enter Tryz.func183, Tryz.ntmps183
 go_wp2
 go_loopg [5, 8] l.length (fun kq v5 v8 w' => ∃ i : Nat, v8 = .int .i64 i ∧ i ≤ l.length ∧ kq = l.length - i ∧ Aside0 (∀ j (h : j < l.length), j < i → (fun x => !toldB x) l[j] = false) ∧ BelL w w')
 case atStart => exact ⟨0, rfl, Nat.zero_le _, rfl, ⟨fun j h hj => absurd hj (Nat.not_lt_zero _)⟩, belL⟩
 case round =>
  obtain ⟨i, rfl, hi, rfl, HA, hbr⟩ := hrel
  by_cases hlt : i < l.length
  ·obtain ⟨ad, rfl, hx0, hx1, hx2⟩ := el_T77 (W := wr) (A := A) (n := l.length) (c := c) (l := l) i hlt
   cases hpi : (fun x => !toldB x) l[i]
   ·have HPI := Aside0.mk hpi
    go_wp2_with (first | (go_at_call 152; (with_reducible refine Calls.mono odd_ ?_); rintro e w5 ⟨rfl, hb⟩; rw [show (!toldB ⟨l[i].f0, l[i].f1, l[i].f2⟩) = _ from hpi]))
    go_roundg (l.length - (i + 1))
    case measure => omega
    case rel =>
     exact ⟨i + 1, by go_num, by omega, rfl, ⟨fun j h hj => by
      rcases Nat.lt_or_eq_of_le (Nat.le_of_lt_succ hj) with h2 | h2
      ·exact HA.out j h h2
      ·subst h2; exact HPI.out⟩, belL⟩
   ·have HT := Aside0.mk (show l.any (fun x => !toldB x) = true from List.any_eq_true.2 ⟨l[i], List.getElem_mem hlt, hpi⟩)
    go_wp2_with (first | (go_at_call 152; (with_reducible refine Calls.mono odd_ ?_); rintro e w5 ⟨rfl, hb⟩; rw [show (!toldB ⟨l[i].f0, l[i].f1, l[i].f2⟩) = _ from hpi]))
    go_ret
    exact ⟨(i : Int), rfl, by rw [HT.out]; exact decide_eq_true (by omega), belL⟩
  ·have HT := Aside0.mk (show l.any (fun x => !toldB x) = false by
    rw [List.any_eq_false]
    intro x hx
    obtain ⟨j, hj, rfl⟩ := List.getElem_of_mem hx
    have := HA.out j hj (by omega)
    exact fun hh => Bool.false_ne_true (this.symm.trans hh))
   go_wp2
   go_ret
   exact ⟨-1, rfl, by rw [HT.out]; rfl, belL⟩
theorem badTold_  {A : Option Addr} {n c : Nat} {l : List S77} {w : World} [h : Sr k77 w A n c l]  :
 Calls Tryz.prog 151 #[.slice A n c, .func (.func 152) #[] #[]] w fun e w' => e = .returned (.bool (badTolds l)) ∧ BelL w w' := by
 have HC := Aside0.mk (@badToldIdx_  A n c l w h )
 clear h
 go_enter Tryz.func151, Tryz.ntmps151
 go_wp2_with (first | (go_at_call 183; (with_reducible refine Calls.mono HC.out ?_); rintro e wb ⟨q, rfl, hk, hb⟩; have HK := Aside0.mk hk; clear hk))
 go_ret
 exact ⟨by rw [show badTolds l = decide (0 ≤ q) from HK.out.symm]; rfl, belL⟩
def queueB (l : List S126) : Bool := decide (l.length ≤ 512) && !badMsgs l
theorem queueMay_ {A : Option Addr} {n c : Nat} {l : List S126} {w : World} [h : Sr k126 w A n c l] :
 Calls Tryz.prog 92 #[.slice A n c] w fun e w' => e = .returned (.bool (queueB l)) ∧ BelL w w' := by
 obtain rfl := h.len
 have hs := sr_l h
 clear h
 by_cases h1 : l.length ≤ 512
 ·rw [show queueB l = !badMsgs l by simp [queueB, h1]]
  have h2 : decide ((l.length : Int) ≤ 512) = true := decide_eq_true (by omega)
  clear h1
  go_enter Tryz.func92, Tryz.ntmps92
  go_wp2_with (first | (go_at_call 145; (with_reducible refine cM (badMsg_) ?_); rintro e wb ⟨rfl, hb⟩))
  go_ret
  exact ⟨rfl, belL⟩
 ·rw [show queueB l = false by simp [queueB, h1]]
  have h2 : decide ((l.length : Int) ≤ 512) = false := decide_eq_false (by omega)
  clear h1
  go_enter Tryz.func92, Tryz.ntmps92
  go_wp2_with (first | (go_at_call 145; (with_reducible refine cM (badMsg_) ?_); rintro e wb ⟨rfl, hb⟩))
  go_ret
  exact ⟨rfl, belL⟩
end
section
attribute [local go_sem] cell_tc2
def nodeB (x : S40) : Bool :=
 (x.f0 || decide (x.f1.f1.length + x.f1.f2.length + x.f2.length + x.f3.length = 0)) && viewB x.f1.f0 x.f1.f1 x.f1.f2 && storeB x.f2 && decide (x.f3.length ≤ 64) && !badTolds x.f3
theorem badTold2_ {A : Option Addr} {n c : Nat} {l : List S77} {w : World} [h : Sr k77 w A n c l] :
 Calls Tryz.prog 151 #[.slice A n c, .func (.func 152) #[] #[]] w fun e w' => e = .returned (.bool (badTolds l)) ∧ BelL w w' := badTold_
set_option maxHeartbeats 1000000 in
theorem nodeMay_vu {id : Int} {A B I L : Option Addr} {n c m d ni ci nl cl : Nat} {ps : List S98} {xs : List Int} {is : List S48} {ls : List S77} {w : World} [h1 : Sr k98 w A n c ps] [h2 : Sr kI w B m d xs] [h3 : Sr k48 w I ni ci is] [h4 : Sr k77 w L nl cl ls]  (p : viewB id ps xs = false) :
 Calls Tryz.prog 108 #[.agg #[.bool true, .int .i64 id, .slice A n c, .slice B m d, .slice I ni ci, .slice L nl cl]] w fun e w' => e = .returned (.bool (nodeB ⟨true, ⟨id, ps, xs⟩, is, ls⟩)) ∧ BelL w w' := by
 obtain rfl := h1.len
 obtain rfl := h2.len
 obtain rfl := h3.len
 obtain rfl := h4.len
 have s1 := sr_l h1
 have s2 := sr_l h2
 have s3 := sr_l h3
 have s4 := sr_l h4
 have l1 := h1.C.2.1
 have l2 := h2.C.2.1
 have l3 := h3.C.2.1
 have l4 := h4.C.2.1
 clear h1 h2 h3 h4
 rw [show nodeB ⟨true, ⟨id, ps, xs⟩, is, ls⟩ = false by simp [nodeB, p]]
 skip
 go_enter Tryz.func108, Tryz.ntmps108
 go_wp2_with (first | (with_reducible refine box_tc rfl (N := 1) rfl (cs := #[.bool true, .int .i64 id, .slice A ps.length c, .slice B xs.length d, .slice I is.length ci, .slice L ls.length cl]) (t := 40) ?hr ?_; (case hr => go_simp <;> rfl); intro g1 wg1 _ _ _) | (go_at_call 34; (with_reducible refine cM (viewMay_) ?_); rintro e wb ⟨rfl, hb⟩) | (go_at_call 53; (with_reducible refine cM (storeMay_) ?_); rintro e wb ⟨rfl, hb⟩) | (go_at_call 151; (with_reducible refine cM (badTold2_) ?_); rintro e wb ⟨rfl, hb⟩))
 go_ret
 exact ⟨rfl, belL⟩
set_option maxHeartbeats 1000000 in
theorem nodeMay_su {id : Int} {A B I L : Option Addr} {n c m d ni ci nl cl : Nat} {ps : List S98} {xs : List Int} {is : List S48} {ls : List S77} {w : World} [h1 : Sr k98 w A n c ps] [h2 : Sr kI w B m d xs] [h3 : Sr k48 w I ni ci is] [h4 : Sr k77 w L nl cl ls]  (p : viewB id ps xs = true) (q : storeB is = false) :
 Calls Tryz.prog 108 #[.agg #[.bool true, .int .i64 id, .slice A n c, .slice B m d, .slice I ni ci, .slice L nl cl]] w fun e w' => e = .returned (.bool (nodeB ⟨true, ⟨id, ps, xs⟩, is, ls⟩)) ∧ BelL w w' := by
 obtain rfl := h1.len
 obtain rfl := h2.len
 obtain rfl := h3.len
 obtain rfl := h4.len
 have s1 := sr_l h1
 have s2 := sr_l h2
 have s3 := sr_l h3
 have s4 := sr_l h4
 have l1 := h1.C.2.1
 have l2 := h2.C.2.1
 have l3 := h3.C.2.1
 have l4 := h4.C.2.1
 clear h1 h2 h3 h4
 rw [show nodeB ⟨true, ⟨id, ps, xs⟩, is, ls⟩ = false by simp [nodeB, q]]
 skip
 go_enter Tryz.func108, Tryz.ntmps108
 go_wp2_with (first | (with_reducible refine box_tc rfl (N := 1) rfl (cs := #[.bool true, .int .i64 id, .slice A ps.length c, .slice B xs.length d, .slice I is.length ci, .slice L ls.length cl]) (t := 40) ?hr ?_; (case hr => go_simp <;> rfl); intro g1 wg1 _ _ _) | (go_at_call 34; (with_reducible refine cM (viewMay_) ?_); rintro e wb ⟨rfl, hb⟩) | (go_at_call 53; (with_reducible refine cM (storeMay_) ?_); rintro e wb ⟨rfl, hb⟩) | (go_at_call 151; (with_reducible refine cM (badTold2_) ?_); rintro e wb ⟨rfl, hb⟩))
 go_ret
 exact ⟨rfl, belL⟩
set_option maxHeartbeats 1000000 in
theorem nodeMay_lu {id : Int} {A B I L : Option Addr} {n c m d ni ci nl cl : Nat} {ps : List S98} {xs : List Int} {is : List S48} {ls : List S77} {w : World} [h1 : Sr k98 w A n c ps] [h2 : Sr kI w B m d xs] [h3 : Sr k48 w I ni ci is] [h4 : Sr k77 w L nl cl ls]  (p : viewB id ps xs = true) (q : storeB is = true) (r : ¬ nl ≤ 64) :
 Calls Tryz.prog 108 #[.agg #[.bool true, .int .i64 id, .slice A n c, .slice B m d, .slice I ni ci, .slice L nl cl]] w fun e w' => e = .returned (.bool (nodeB ⟨true, ⟨id, ps, xs⟩, is, ls⟩)) ∧ BelL w w' := by
 obtain rfl := h1.len
 obtain rfl := h2.len
 obtain rfl := h3.len
 obtain rfl := h4.len
 have s1 := sr_l h1
 have s2 := sr_l h2
 have s3 := sr_l h3
 have s4 := sr_l h4
 have l1 := h1.C.2.1
 have l2 := h2.C.2.1
 have l3 := h3.C.2.1
 have l4 := h4.C.2.1
 clear h1 h2 h3 h4
 rw [show nodeB ⟨true, ⟨id, ps, xs⟩, is, ls⟩ = false by simp [nodeB, r]]
 skip
 have r1 : decide ((ls.length : Int) ≤ 64) = false := decide_eq_false (by omega)
 clear r
 go_enter Tryz.func108, Tryz.ntmps108
 go_wp2_with (first | (with_reducible refine box_tc rfl (N := 1) rfl (cs := #[.bool true, .int .i64 id, .slice A ps.length c, .slice B xs.length d, .slice I is.length ci, .slice L ls.length cl]) (t := 40) ?hr ?_; (case hr => go_simp <;> rfl); intro g1 wg1 _ _ _) | (go_at_call 34; (with_reducible refine cM (viewMay_) ?_); rintro e wb ⟨rfl, hb⟩) | (go_at_call 53; (with_reducible refine cM (storeMay_) ?_); rintro e wb ⟨rfl, hb⟩) | (go_at_call 151; (with_reducible refine cM (badTold2_) ?_); rintro e wb ⟨rfl, hb⟩))
 go_ret
 exact ⟨rfl, belL⟩
set_option maxHeartbeats 1000000 in
theorem nodeMay_tu {id : Int} {A B I L : Option Addr} {n c m d ni ci nl cl : Nat} {ps : List S98} {xs : List Int} {is : List S48} {ls : List S77} {w : World} [h1 : Sr k98 w A n c ps] [h2 : Sr kI w B m d xs] [h3 : Sr k48 w I ni ci is] [h4 : Sr k77 w L nl cl ls]  (p : viewB id ps xs = true) (q : storeB is = true) (r : nl ≤ 64) :
 Calls Tryz.prog 108 #[.agg #[.bool true, .int .i64 id, .slice A n c, .slice B m d, .slice I ni ci, .slice L nl cl]] w fun e w' => e = .returned (.bool (nodeB ⟨true, ⟨id, ps, xs⟩, is, ls⟩)) ∧ BelL w w' := by
 obtain rfl := h1.len
 obtain rfl := h2.len
 obtain rfl := h3.len
 obtain rfl := h4.len
 have s1 := sr_l h1
 have s2 := sr_l h2
 have s3 := sr_l h3
 have s4 := sr_l h4
 have l1 := h1.C.2.1
 have l2 := h2.C.2.1
 have l3 := h3.C.2.1
 have l4 := h4.C.2.1
 clear h1 h2 h3 h4
 rw [show nodeB ⟨true, ⟨id, ps, xs⟩, is, ls⟩ = !badTolds ls by simp [nodeB, p, q, r]]
 skip
 have r1 : decide ((ls.length : Int) ≤ 64) = true := decide_eq_true (by omega)
 clear r
 go_enter Tryz.func108, Tryz.ntmps108
 go_wp2_with (first | (with_reducible refine box_tc rfl (N := 1) rfl (cs := #[.bool true, .int .i64 id, .slice A ps.length c, .slice B xs.length d, .slice I is.length ci, .slice L ls.length cl]) (t := 40) ?hr ?_; (case hr => go_simp <;> rfl); intro g1 wg1 _ _ _) | (go_at_call 34; (with_reducible refine cM (viewMay_) ?_); rintro e wb ⟨rfl, hb⟩) | (go_at_call 53; (with_reducible refine cM (storeMay_) ?_); rintro e wb ⟨rfl, hb⟩) | (go_at_call 151; (with_reducible refine cM (badTold2_) ?_); rintro e wb ⟨rfl, hb⟩))
 go_ret
 exact ⟨rfl, belL⟩
set_option maxHeartbeats 1000000 in
theorem nodeMay_o {id : Int} {A B I L : Option Addr} {n c m d ni ci nl cl : Nat} {ps : List S98} {xs : List Int} {is : List S48} {ls : List S77} {w : World} [h1 : Sr k98 w A n c ps] [h2 : Sr kI w B m d xs] [h3 : Sr k48 w I ni ci is] [h4 : Sr k77 w L nl cl ls] (zz : ¬ ps.length + xs.length + is.length + ls.length = 0) (b1 : ps.length + xs.length + is.length + ls.length ≤ 1000000000000000) :
 Calls Tryz.prog 108 #[.agg #[.bool false, .int .i64 id, .slice A n c, .slice B m d, .slice I ni ci, .slice L nl cl]] w fun e w' => e = .returned (.bool (nodeB ⟨false, ⟨id, ps, xs⟩, is, ls⟩)) ∧ BelL w w' := by
 obtain rfl := h1.len
 obtain rfl := h2.len
 obtain rfl := h3.len
 obtain rfl := h4.len
 have s1 := sr_l h1
 have s2 := sr_l h2
 have s3 := sr_l h3
 have s4 := sr_l h4
 clear h1 h2 h3 h4
 rw [show nodeB ⟨false, ⟨id, ps, xs⟩, is, ls⟩ = false by simp only [nodeB, decide_eq_false zz]; rfl]
 have z1 : decide ((0 : Int) < (ps.length : Int) + (xs.length : Int) + (is.length : Int) + (ls.length : Int)) = true := decide_eq_true (by omega)
 go_enter Tryz.func108, Tryz.ntmps108
 go_wp2_with (first | (with_reducible refine box_tc rfl (N := 1) rfl (cs := #[.bool false, .int .i64 id, .slice A ps.length c, .slice B xs.length d, .slice I is.length ci, .slice L ls.length cl]) (t := 40) ?hr ?_; (case hr => go_simp <;> rfl); intro g1 wg1 _ _ _) | (go_at_call 34; (with_reducible refine cM (viewMay_) ?_); rintro e wb ⟨rfl, hb⟩) | (go_at_call 53; (with_reducible refine cM (storeMay_) ?_); rintro e wb ⟨rfl, hb⟩) | (go_at_call 151; (with_reducible refine cM (badTold2_) ?_); rintro e wb ⟨rfl, hb⟩))
 go_ret
 exact ⟨rfl, belL⟩
set_option maxHeartbeats 1000000 in
theorem nodeMay_z {id : Int} {A B I L : Option Addr} {c d ci cl : Nat} {w : World} [h1 : Sr k98 w A 0 c []] [h2 : Sr kI w B 0 d []] [h3 : Sr k48 w I 0 ci []] [h4 : Sr k77 w L 0 cl []] :
 Calls Tryz.prog 108 #[.agg #[.bool false, .int .i64 id, .slice A 0 c, .slice B 0 d, .slice I 0 ci, .slice L 0 cl]] w fun e w' => e = .returned (.bool (nodeB ⟨false, ⟨id, [], []⟩, [], []⟩)) ∧ BelL w w' := by
 have s1 := sr_l h1
 have s2 := sr_l h2
 have s3 := sr_l h3
 have s4 := sr_l h4
 clear h1 h2 h3 h4
 have q : storeB [] = true := by rfl
 have b0 : badTolds [] = false := by rfl
 cases p : viewB id [] []
 ·rw [show nodeB ⟨false, ⟨id, [], []⟩, [], []⟩ = false by simp [nodeB, p]]
  go_enter Tryz.func108, Tryz.ntmps108
  go_wp2_with (first | (with_reducible refine box_tc rfl (N := 1) rfl (cs := #[.bool false, .int .i64 id, .slice A 0 c, .slice B 0 d, .slice I 0 ci, .slice L 0 cl]) (t := 40) ?hr ?_; (case hr => go_simp <;> rfl); intro g1 wg1 _ _ _) | (go_at_call 34; (with_reducible refine cM (viewMay_ (n := 0) (ps := []) (m := 0) (xs := [])) ?_); rintro e wb ⟨rfl, hb⟩) | (go_at_call 53; (with_reducible refine cM (storeMay_ (n := 0) (l := [])) ?_); rintro e wb ⟨rfl, hb⟩) | (go_at_call 151; (with_reducible refine cM (badTold2_ (n := 0) (l := [])) ?_); rintro e wb ⟨rfl, hb⟩))
  go_ret
  exact ⟨rfl, belL⟩
 ·rw [show nodeB ⟨false, ⟨id, [], []⟩, [], []⟩ = true by simp [nodeB, p, q, b0]]
  go_enter Tryz.func108, Tryz.ntmps108
  go_wp2_with (first | (with_reducible refine box_tc rfl (N := 1) rfl (cs := #[.bool false, .int .i64 id, .slice A 0 c, .slice B 0 d, .slice I 0 ci, .slice L 0 cl]) (t := 40) ?hr ?_; (case hr => go_simp <;> rfl); intro g1 wg1 _ _ _) | (go_at_call 34; (with_reducible refine cM (viewMay_ (n := 0) (ps := []) (m := 0) (xs := [])) ?_); rintro e wb ⟨rfl, hb⟩) | (go_at_call 53; (with_reducible refine cM (storeMay_ (n := 0) (l := [])) ?_); rintro e wb ⟨rfl, hb⟩) | (go_at_call 151; (with_reducible refine cM (badTold2_ (n := 0) (l := [])) ?_); rintro e wb ⟨rfl, hb⟩))
  go_ret
  exact ⟨rfl, belL⟩
theorem nodeMay_ {up : Bool} {id : Int} {A B I L : Option Addr} {n c m d ni ci nl cl : Nat} {ps : List S98} {xs : List Int} {is : List S48} {ls : List S77} {w : World} [h1 : Sr k98 w A n c ps] [h2 : Sr kI w B m d xs] [h3 : Sr k48 w I ni ci is] [h4 : Sr k77 w L nl cl ls] (hb : n + m + ni + nl ≤ 1000000000000000) :
 Calls Tryz.prog 108 #[.agg #[.bool up, .int .i64 id, .slice A n c, .slice B m d, .slice I ni ci, .slice L nl cl]] w fun e w' => e = .returned (.bool (nodeB ⟨up, ⟨id, ps, xs⟩, is, ls⟩)) ∧ BelL w w' := by
 obtain rfl := h1.len
 obtain rfl := h2.len
 obtain rfl := h3.len
 obtain rfl := h4.len
 have s1 := sr_l h1
 have s2 := sr_l h2
 have s3 := sr_l h3
 have s4 := sr_l h4
 cases up
 ·by_cases zz : ps.length + xs.length + is.length + ls.length = 0
  ·obtain rfl : ps = [] := List.eq_nil_of_length_eq_zero (by omega)
   obtain rfl : xs = [] := List.eq_nil_of_length_eq_zero (by omega)
   obtain rfl : is = [] := List.eq_nil_of_length_eq_zero (by omega)
   obtain rfl : ls = [] := List.eq_nil_of_length_eq_zero (by omega)
   exact nodeMay_z
  ·exact nodeMay_o zz hb
 ·cases p : viewB id ps xs
  ·exact nodeMay_vu p
  cases q : storeB is
  ·exact nodeMay_su p q
  by_cases r : ls.length ≤ 64
  ·exact nodeMay_tu p q r
  ·exact nodeMay_lu p q r
theorem nodeUp_ {up : Bool} {id : Int} {A B I L : Option Addr} {n c m d ni ci nl cl : Nat} {ps : List S98} {xs : List Int} {is : List S48} {ls : List S77} {w : World} [h1 : Sr k98 w A n c ps] [h2 : Sr kI w B m d xs] [h3 : Sr k48 w I ni ci is] [h4 : Sr k77 w L nl cl ls] (hb : n + m + ni + nl ≤ 1000000000000000) :
 Calls Tryz.prog 56 #[.agg #[.bool up, .int .i64 id, .slice A n c, .slice B m d, .slice I ni ci, .slice L nl cl]] w fun e w' => e = .returned (.bool (up && nodeB ⟨up, ⟨id, ps, xs⟩, is, ls⟩)) ∧ BelL w w' := by
 obtain rfl := h1.len
 obtain rfl := h2.len
 obtain rfl := h3.len
 obtain rfl := h4.len
 have s1 := sr_l h1
 have s2 := sr_l h2
 have s3 := sr_l h3
 have s4 := sr_l h4
 clear h1 h2 h3 h4
 have HB := Aside0.mk hb
 clear hb
 cases up
 ·go_enter Tryz.func56, Tryz.ntmps56
  go_wp2_with (first | (with_reducible refine box_tc rfl (N := 1) rfl (cs := #[.bool false, .int .i64 id, .slice A ps.length c, .slice B xs.length d, .slice I is.length ci, .slice L ls.length cl]) (t := 40) ?hr ?_; (case hr => go_simp <;> rfl); intro g1 wg1 _ _ _) | (go_at_call 108; (with_reducible refine cM (nodeMay_ HB.out) ?_); rintro e wb ⟨rfl, hb⟩))
  go_ret
  exact ⟨rfl, belL⟩
 ·go_enter Tryz.func56, Tryz.ntmps56
  go_wp2_with (first | (with_reducible refine box_tc rfl (N := 1) rfl (cs := #[.bool true, .int .i64 id, .slice A ps.length c, .slice B xs.length d, .slice I is.length ci, .slice L ls.length cl]) (t := 40) ?hr ?_; (case hr => go_simp <;> rfl); intro g1 wg1 _ _ _) | (go_at_call 108; (with_reducible refine cM (nodeMay_ HB.out) ?_); rintro e wb ⟨rfl, hb⟩))
  go_ret
  exact ⟨rfl, belL⟩
end
section
attribute [local go_sem] cell_tc2
def nodeSz (x : S40) : Nat := x.f1.f1.length + x.f1.f2.length + x.f2.length + x.f3.length
def nodesSz (l : List S40) : Prop := ∀ x ∈ l, nodeSz x ≤ 1000000000000000
def nodeAt (l : List S40) (i : Nat) : Bool := nodeB (l.getD i z40) && (decide (i = 0) || decide ((l.getD (i - 1) z40).f1.f0 < (l.getD i z40).f1.f0))
def nodesB (l : List S40) : Bool := (List.range l.length).all (nodeAt l) && (decide (1 ≤ l.length) && decide (l.length ≤ 8))
theorem getD40 {l : List S40} {i : Nat} (h : i < l.length) : l.getD i z40 = l[i] := by
 rw [List.getD_eq_getElem?_getD, List.getElem?_eq_getElem h]; rfl
theorem nodeAt_yes {l : List S40} {i : Nat} (h : i < l.length) (h1 : nodeB l[i] = true) (h2 : i = 0 ∨ (l.getD (i - 1) z40).f1.f0 < l[i].f1.f0) : nodeAt l i = true := by
 unfold nodeAt; rw [getD40 h, h1]; rcases h2 with h2 | h2 <;> simp only [h2, decide_true, Bool.true_or, Bool.or_true, Bool.and_true]
theorem nodeAt_no1 {l : List S40} {i : Nat} (h : i < l.length) (h1 : nodeB l[i] = false) : nodeAt l i = false := by unfold nodeAt; rw [getD40 h, h1]; rfl
theorem nodeAt_no2 {l : List S40} {i : Nat} (h : i < l.length) (h0 : i ≠ 0) (h2 : ¬ (l.getD (i - 1) z40).f1.f0 < l[i].f1.f0) : nodeAt l i = false := by
 unfold nodeAt; rw [getD40 h, decide_eq_false h0, decide_eq_false h2]; simp only [Bool.or_false, Bool.and_false]
set_option maxRecDepth 100000 in
set_option maxHeartbeats 4000000 in
theorem nodes_ {A : Option Addr} {n c : Nat} {l : List S40} {w : World} [h : Sr k40 w A n c l] (hz : nodesSz l) :
 Calls Tryz.prog 90 #[.slice A n c] w fun e w' => e = .returned (.bool (nodesB l)) ∧ BelL w w' := by
 obtain rfl := h.len
 have HS := sr_l h
 have hlen : l.length ≤ 9223372036854775807 := h.C.2.1
 have HZ := Aside0.mk hz
 clear h hz
 go_enter Tryz.func90, Tryz.ntmps90
 go_wp2
 go_loopg [3, 4, 7] l.length (fun kq v3 v4 v7 w' => ∃ i : Nat, v7 = .int .i64 i ∧ i ≤ l.length ∧ kq = l.length - i ∧ Aside0 ((List.range i).all (nodeAt l) = true) ∧ BelL w w')
 case atStart => exact ⟨0, rfl, Nat.zero_le _, rfl, ⟨by simp⟩, belL⟩
 case round =>
  obtain ⟨i, rfl, hi, rfl, HA, hbr⟩ := hrel
  by_cases hlt : i < l.length
  ·obtain ⟨ad, A2, c2, A3, c3, A4, c4, A5, c5, rfl, hx0, hx1, hx2, hx3, hx4, hx5, hg2, hg3, hg4, hg5⟩ := el_T40 (W := wr) (A := A) (n := l.length) (c := c) (l := l) i hlt
   have HZI := Aside0.mk (HZ.out l[i] (List.getElem_mem hlt))
   have HXI := Aside0.mk (show (⟨l[i].f0, ⟨l[i].f1.f0, l[i].f1.f1, l[i].f1.f2⟩, l[i].f2, l[i].f3⟩ : S40) = l[i] from rfl)
   cases h1 : nodeB ⟨l[i].f0, ⟨l[i].f1.f0, l[i].f1.f1, l[i].f1.f2⟩, l[i].f2, l[i].f3⟩
   ·have HF := Aside0.mk (show nodesB l = false by unfold nodesB; rw [range_no hlt (nodeAt_no1 hlt h1)]; rfl)
    go_wp2_with (first | (with_reducible refine box_tc rfl (N := 4) rfl (cs := #[.bool false, .int .i64 0, .slice none 0 0, .slice none 0 0, .slice none 0 0, .slice none 0 0]) (t := 40) ?hr ?_; (case hr => go_simp <;> rfl); intro g1 wg1 _ _ _))
    (refine wp_region_bel (by kernel_rfl) (by kernel_rfl) ?_; (repeat (first | go_big_quiet_skip | (go_big_quiet_want; first | (go_big_quiet_op; go_big_quiet_on) | (apply Exists.intro; refine ⟨fun wq hq => ?_, ?_⟩; (focus (unfold Oper.quietAt; go_simp; first | done | exact ⟨rfl, rfl⟩ | exact rfl | (first | (go_at_call 108; refine Calls.mono (nodeMay_ HZI.out) ?_; rintro e w1 ⟨rfl, hb⟩; exact ⟨by rw [h1], belL⟩)))); (try simp only [Act.put, put3]); go_big_quiet_on)))); refine wpQuiet_nil ?_; intro w7 hb7)
    all_goals
     go_wp2
     go_ret
     exact ⟨by rw [HF.out]; rfl, belL⟩
   ·by_cases h0 : i = 0
    ·have HT := Aside0.mk (range_all HA.out (nodeAt_yes hlt h1 (.inl h0)))
     have hgt : decide ((0 : Int) < (i : Int)) = false := decide_eq_false (by omega)
     have hgn : decide (0 < i) = false := decide_eq_false (by omega)
     clear h0
     go_wp2_with (first | (with_reducible refine box_tc rfl (N := 4) rfl (cs := #[.bool false, .int .i64 0, .slice none 0 0, .slice none 0 0, .slice none 0 0, .slice none 0 0]) (t := 40) ?hr ?_; (case hr => go_simp <;> rfl); intro g1 wg1 _ _ _))
     (refine wp_region_bel (by kernel_rfl) (by kernel_rfl) ?_; (repeat (first | go_big_quiet_skip | (go_big_quiet_want; first | (go_big_quiet_op; go_big_quiet_on) | (apply Exists.intro; refine ⟨fun wq hq => ?_, ?_⟩; (focus (unfold Oper.quietAt; go_simp; first | done | exact ⟨rfl, rfl⟩ | exact rfl | (first | (go_at_call 108; refine Calls.mono (nodeMay_ HZI.out) ?_; rintro e w1 ⟨rfl, hb⟩; exact ⟨by rw [h1], belL⟩)))); (try simp only [Act.put, put3]); go_big_quiet_on)))); refine wpQuiet_nil ?_; intro w7 hb7)
     all_goals
      go_wp2
      go_roundg (l.length - (i + 1))
      case measure => omega
      case rel => exact ⟨i + 1, by go_num, by omega, rfl, HT, belL⟩
    ·have hgt : decide ((0 : Int) < (i : Int)) = true := decide_eq_true (by omega)
     have hgn : decide (0 < i) = true := decide_eq_true (by omega)
     obtain ⟨ad', B2, d2, B3, d3, B4, d4, B5, d5, he, hy0, hy1, hy2, hy3, hy4, hy5, hq2, hq3, hq4, hq5⟩ := el_T40 (W := wr) (A := some ad) (n := l.length) (c := c) (l := l) (i - 1) (by omega)
     obtain rfl := Option.some.inj he
     have e1 : (i : Int) - 1 = ((i - 1 : Nat) : Int) := by omega
     have e1w : IntKind.i64.wrap ((i - 1 : Nat) : Int) = ((i - 1 : Nat) : Int) := IntWalk.i64_in _ (by omega)
     have hj1 : i - 1 < l.length := by omega
     have e2 : l.getD (i - 1) z40 = l[i - 1] := getD40 (by omega)
     by_cases h2 : l[i - 1].f1.f0 < l[i].f1.f0
     ·have HT := Aside0.mk (range_all HA.out (nodeAt_yes hlt h1 (.inr (by rw [e2]; exact h2))))
      have h3 : decide (l[i].f1.f0 ≤ l[i - 1].f1.f0) = false := decide_eq_false (by omega)
      clear e2
      go_wp2_with (first | (with_reducible refine box_tc rfl (N := 4) rfl (cs := #[.bool false, .int .i64 0, .slice none 0 0, .slice none 0 0, .slice none 0 0, .slice none 0 0]) (t := 40) ?hr ?_; (case hr => go_simp <;> rfl); intro g1 wg1 _ _ _))
      (refine wp_region_bel (by kernel_rfl) (by kernel_rfl) ?_; (repeat (first | go_big_quiet_skip | (go_big_quiet_want; first | (go_big_quiet_op; go_big_quiet_on) | (apply Exists.intro; refine ⟨fun wq hq => ?_, ?_⟩; (focus (unfold Oper.quietAt; go_simp; first | done | exact ⟨rfl, rfl⟩ | exact rfl | (first | (go_at_call 108; refine Calls.mono (nodeMay_ HZI.out) ?_; rintro e w1 ⟨rfl, hb⟩; exact ⟨by rw [h1], belL⟩)))); (try simp only [Act.put, put3]); go_big_quiet_on)))); refine wpQuiet_nil ?_; intro w7 hb7)
      all_goals
       go_wp2
       go_roundg (l.length - (i + 1))
       case measure => omega
       case rel => exact ⟨i + 1, by go_num, by omega, rfl, HT, belL⟩
     ·have HF := Aside0.mk (show nodesB l = false by unfold nodesB; rw [range_no hlt (nodeAt_no2 hlt h0 (by rw [e2]; exact h2))]; rfl)
      have h3 : decide (l[i].f1.f0 ≤ l[i - 1].f1.f0) = true := decide_eq_true (by omega)
      clear e2
      go_wp2_with (first | (with_reducible refine box_tc rfl (N := 4) rfl (cs := #[.bool false, .int .i64 0, .slice none 0 0, .slice none 0 0, .slice none 0 0, .slice none 0 0]) (t := 40) ?hr ?_; (case hr => go_simp <;> rfl); intro g1 wg1 _ _ _))
      (refine wp_region_bel (by kernel_rfl) (by kernel_rfl) ?_; (repeat (first | go_big_quiet_skip | (go_big_quiet_want; first | (go_big_quiet_op; go_big_quiet_on) | (apply Exists.intro; refine ⟨fun wq hq => ?_, ?_⟩; (focus (unfold Oper.quietAt; go_simp; first | done | exact ⟨rfl, rfl⟩ | exact rfl | (first | (go_at_call 108; refine Calls.mono (nodeMay_ HZI.out) ?_; rintro e w1 ⟨rfl, hb⟩; exact ⟨by rw [h1], belL⟩)))); (try simp only [Act.put, put3]); go_big_quiet_on)))); refine wpQuiet_nil ?_; intro w7 hb7)
      all_goals
       go_wp2
       go_ret
       exact ⟨by rw [HF.out]; rfl, belL⟩
  ·have HT := Aside0.mk (show nodesB l = (decide (1 ≤ l.length) && decide (l.length ≤ 8)) by
    have e : i = l.length := by omega
    have := HA.out
    rw [e] at this
    unfold nodesB; rw [this, Bool.true_and])
   by_cases hq1 : 1 ≤ l.length
   ·have hq2 : decide ((1 : Int) ≤ (l.length : Int)) = true := decide_eq_true (by omega)
    have hq3 : decide (1 ≤ l.length) = true := decide_eq_true hq1
    have HT2 : Aside0 (nodesB l = decide ((l.length : Int) ≤ 8)) := ⟨by rw [HT.out, hq3, Bool.true_and]; exact decide_eq_decide.2 (by omega)⟩
    clear hq1
    go_wp2
    go_ret
    exact ⟨by rw [HT2.out]; rfl, belL⟩
   ·have hq2 : decide ((1 : Int) ≤ (l.length : Int)) = false := decide_eq_false (by omega)
    have hq3 : decide (1 ≤ l.length) = false := decide_eq_false hq1
    have HT2 : Aside0 (nodesB l = false) := ⟨by rw [HT.out, hq3, Bool.false_and]⟩
    clear hq1
    go_wp2
    go_ret
    exact ⟨by rw [HT2.out]; rfl, belL⟩
end
section
attribute [local go_sem] cell_tc2
theorem find1_ {up : Bool} {id x : Int} {A B I L : Option Addr} {n c m d ni ci nl cl : Nat} {w : World} :
 Calls Tryz.prog 147 #[.agg #[.bool up, .int .i64 id, .slice A n c, .slice B m d, .slice I ni ci, .slice L nl cl], .int .i64 x] w fun e w' => e = .returned (.int .i64 (cmpI id x)) ∧ BelL w w' := by
 go_enter Tryz.func147, Tryz.ntmps147
 go_wp2_with (first | (with_reducible refine box_tc rfl (N := 2) rfl (cs := #[.bool up, .int .i64 id, .slice A n c, .slice B m d, .slice I ni ci, .slice L nl cl]) (t := 40) ?hr ?_; (case hr => go_simp <;> rfl); intro g1 wg1 _ _ _) | (go_at_call 107; (with_reducible refine cM (compare _ _ _) ?_); rintro e w' ⟨rfl, ⟨nd, rfl⟩⟩))
 go_ret
 exact ⟨rfl, belL⟩
set_option maxHeartbeats 4000000 in
theorem bsNode_ {key : Int} {A : Option Addr} {n c : Nat} {l : List S40} {w : World} [h : Sr k40 w A n c l] (hl : n ≤ 1000000) 
 (hm : ∀ a b, a ≤ b → b < l.length → (fun i => cmpI (l.getD i z40).f1.f0 key) b < 0 → (fun i => cmpI (l.getD i z40).f1.f0 key) a < 0) :
 Calls Tryz.prog 146 #[.slice A n c, .int .i64 key, .func (.func 147) #[] #[]] w fun e w' => e = .returned (.tuple #[.int .i64 (cnt (fun i => cmpI (l.getD i z40).f1.f0 key) l.length : Nat), .bool (hit (fun i => cmpI (l.getD i z40).f1.f0 key) l.length)]) ∧ BelL w w' := by
 obtain rfl := h.len
 have HS := sr_l h
 clear h
 have M := Aside0.mk hm
 generalize hcf : (fun i => cmpI (l.getD i z40).f1.f0 key) = cf at M ⊢
 have CF := Aside0.mk hcf
 generalize hn : cnt cf l.length = n0
 have CN := Aside0.mk hn
 generalize hh : hit cf l.length = h0_
 have CH := Aside0.mk hh
 clear hm hn hh hcf
 go_enter Tryz.func146, Tryz.ntmps146
 go_wp2
 go_loopg [9, 10] l.length (fun kx s9 s10 w' => ∃ lo hi : Nat, s9 = .int .i64 lo ∧ s10 = .int .i64 hi ∧ lo ≤ hi ∧ hi ≤ l.length ∧ hi - lo ≤ kx ∧ BelL w w' ∧ Aside0 ((∀ t, t < lo → cf t < 0) ∧ (∀ t, hi ≤ t → t < l.length → 0 ≤ cf t)))
 case atStart => exact ⟨0, l.length, rfl, rfl, Nat.zero_le _, Nat.le_refl _, by omega, belL, ⟨fun t ht => absurd ht (Nat.not_lt_zero _), fun t h1 h2 => by omega⟩⟩
 case round =>
  obtain ⟨lo, hi, rfl, rfl, hlh, hin, hg, hbr, II⟩ := hrel
  by_cases hlt : lo < hi
  ·have hmid : (lo + hi) / 2 < l.length := by omega
   obtain ⟨ad, A2, c2, A3, c3, A4, c4, A5, c5, rfl, hx0, hx1, hx2, hx3, hx4, hx5, hg2, hg3, hg4, hg5⟩ := el_T40 (W := wr) (A := A) (n := l.length) (c := c) (l := l) ((lo + hi) / 2) hmid
   have HC := Aside0.mk (show (fun i => cmpI (l.getD i z40).f1.f0 key) ((lo + hi) / 2) = cf ((lo + hi) / 2) by rw [CF.out])
   by_cases hyx : cf ((lo + hi) / 2) < 0
   ·go_wp2_with (first | (go_at_call 147; (with_reducible refine Calls.mono find1_ ?_); rintro e w5 ⟨rfl, hb⟩; rw [show cmpI l[((lo + hi) / 2)].f1.f0 key = cf (((lo + hi) / 2)) by rw [← HC.out]; show _ = cmpI (l.getD (((lo + hi) / 2)) z40).f1.f0 key; rw [getD40 hmid]]))
    go_roundg (hi - ((lo + hi) / 2 + 1))
    case measure => omega
    case rel =>
     exact ⟨(lo + hi) / 2 + 1, hi, by rw [show ((lo : Int) + (hi : Int)) / 2 + 1 = (((lo + hi) / 2 + 1 : Nat) : Int) by omega], rfl, by omega, hin, Nat.le_refl _, belL, ⟨fun t ht => M.out t ((lo + hi) / 2) (by omega) (by omega) hyx, II.out.2⟩⟩
   ·go_wp2_with (first | (go_at_call 147; (with_reducible refine Calls.mono find1_ ?_); rintro e w5 ⟨rfl, hb⟩; rw [show cmpI l[((lo + hi) / 2)].f1.f0 key = cf (((lo + hi) / 2)) by rw [← HC.out]; show _ = cmpI (l.getD (((lo + hi) / 2)) z40).f1.f0 key; rw [getD40 hmid]]))
    go_roundg ((lo + hi) / 2 - lo)
    case measure => omega
    case rel =>
     exact ⟨lo, (lo + hi) / 2, rfl, by rw [show ((lo : Int) + (hi : Int)) / 2 = (((lo + hi) / 2 : Nat) : Int) by omega], by omega, by omega, Nat.le_refl _, belL, ⟨II.out.1, fun t ht htn => Int.not_lt.1 fun h => by have := M.out ((lo + hi) / 2) t ht htn h; omega⟩⟩
  ·obtain rfl : hi = lo := by omega
   have EN := Aside0.mk (show n0 = hi by rw [← CN.out]; exact cnt_eq hin II.out.1 II.out.2)
   have EH := Aside0.mk (show h0_ = (decide (hi < l.length) && (cf hi == 0)) by rw [← CH.out]; exact hit_of (cnt_eq hin II.out.1 II.out.2))
   by_cases hn : hi < l.length
   ·obtain ⟨ad, A2, c2, A3, c3, A4, c4, A5, c5, rfl, hx0, hx1, hx2, hx3, hx4, hx5, hg2, hg3, hg4, hg5⟩ := el_T40 (W := wr) (A := A) (n := l.length) (c := c) (l := l) hi hn
    have HC := Aside0.mk (show (fun i => cmpI (l.getD i z40).f1.f0 key) hi = cf hi by rw [CF.out])
    go_wp2_with (first | (go_at_call 147; (with_reducible refine Calls.mono find1_ ?_); rintro e w5 ⟨rfl, hb⟩; rw [show cmpI l[hi].f1.f0 key = cf (hi) by rw [← HC.out]; show _ = cmpI (l.getD (hi) z40).f1.f0 key; rw [getD40 hn]]))
    go_ret2
    exact ⟨by rw [EN.out, EH.out, decide_eq_true hn]; rfl, belL⟩
   ·go_wp2
    go_ret2
    exact ⟨by rw [EN.out, EH.out, decide_eq_false hn]; rfl, belL⟩
def nodeC (l : List S40) (key : Int) : Nat → Int := fun i => cmpI (l.getD i z40).f1.f0 key
theorem nodeC_at {l : List S40} {key : Int} {i : Nat} (hi : i < l.length) : nodeC l key i = cmpI l[i].f1.f0 key := by unfold nodeC; rw [getD40 hi]
theorem nodesB_at {l : List S40} (h : nodesB l = true) (i : Nat) (hi : i < l.length) : nodeB l[i] = true ∧ (i = 0 ∨ (l.getD (i - 1) z40).f1.f0 < l[i].f1.f0) := by
 unfold nodesB at h
 have h2 := (Bool.and_eq_true_iff.1 h).1
 rw [List.all_eq_true] at h2
 have h3 := h2 i (List.mem_range.2 hi)
 unfold nodeAt at h3
 rw [getD40 hi] at h3
 simp only [Bool.and_eq_true, Bool.or_eq_true, decide_eq_true_eq] at h3
 exact h3
theorem nodesB_len {l : List S40} (h : nodesB l = true) : 1 ≤ l.length ∧ l.length ≤ 8 := by
 unfold nodesB at h
 simp only [Bool.and_eq_true, decide_eq_true_eq] at h
 exact h.2
theorem nodesB_lt {l : List S40} (h : nodesB l = true) : ∀ (d a : Nat) (hb : a + d + 1 < l.length), (l[a]'(by omega)).f1.f0 < l[a + d + 1].f1.f0
 | 0, a, hb => by
   have := (nodesB_at h (a + 1) hb).2
   rcases this with h0 | h1
   ·omega
   ·rwa [Nat.add_sub_cancel, getD40 (by omega)] at h1
 | d + 1, a, hb => by
   have h1 := nodesB_lt h d a (by omega)
   have h2 := (nodesB_at h (a + (d + 1) + 1) hb).2
   rcases h2 with h0 | h2
   ·omega
   ·rw [show a + (d + 1) + 1 - 1 = a + d + 1 by omega, getD40 (by omega)] at h2
    exact Int.lt_trans h1 h2
theorem nodesB_lt' {l : List S40} (h : nodesB l = true) {a b : Nat} (hab : a < b) (hb : b < l.length) : (l[a]'(by omega)).f1.f0 < l[b].f1.f0 := by
 have := nodesB_lt h (b - a - 1) a (by omega)
 have e : a + (b - a - 1) + 1 = b := by omega
 simp only [e] at this
 exact this
theorem nodeC_mono {l : List S40} (h : nodesB l = true) (key : Int) (a b : Nat) (hab : a ≤ b) (hb : b < l.length) (hc : nodeC l key b < 0) : nodeC l key a < 0 := by
 rw [nodeC_at hb, cmpI_neg] at hc
 rw [nodeC_at (by omega), cmpI_neg]
 rcases Nat.lt_or_eq_of_le hab with h1 | h1
 ·exact Int.lt_trans (nodesB_lt' h h1 hb) hc
 ·subst h1; exact hc
def placeN (l : List S40) (key : Int) : Nat := cnt (nodeC l key) l.length
def isNode (l : List S40) (key : Int) : Bool := l.any fun x => x.f1.f0 == key
theorem placeN_hit {l : List S40} (h : nodesB l = true) (key : Int) : hit (nodeC l key) l.length = isNode l key := by
 rw [Bool.eq_iff_iff, hit_iff _ _ (nodeC_mono h key) (fun a b hab hb hc => ?_)]
 ·unfold isNode
  rw [List.any_eq_true]
  constructor
  ·rintro ⟨i, hi, hc⟩
   rw [nodeC_at hi, cmpI_zero] at hc
   exact ⟨l[i], List.getElem_mem hi, by simp [hc]⟩
  ·rintro ⟨x, hx, he⟩
   obtain ⟨i, hi, rfl⟩ := List.getElem_of_mem hx
   exact ⟨i, hi, by rw [nodeC_at hi, cmpI_zero]; simpa using he⟩
 ·rw [nodeC_at hb] at hc
  rw [nodeC_at (by omega), cmpI_neg]
  have h1 := nodesB_lt' h hab hb
  have h2 : ¬ key < l[b].f1.f0 := fun h3 => by
   have : 0 < cmpI l[b].f1.f0 key := by unfold cmpI; rw [if_neg (by omega), if_pos (by omega)]; omega
   omega
  omega
theorem placeN_at {l : List S40} (h : nodesB l = true) {key : Int} (hk : isNode l key = true) : ∃ hn : placeN l key < l.length, l[placeN l key].f1.f0 = key := by
 rw [← placeN_hit h] at hk
 unfold hit at hk
 simp only [Bool.and_eq_true, decide_eq_true_eq, beq_iff_eq] at hk
 refine ⟨hk.1, ?_⟩
 have h2 := hk.2
 rw [nodeC_at hk.1, cmpI_zero] at h2
 exact h2
theorem bsNodeC_ {key : Int} {A : Option Addr} {n c : Nat} {l : List S40} {w : World} [h : Sr k40 w A n c l] (hs : nodesB l = true) :
 Calls Tryz.prog 146 #[.slice A n c, .int .i64 key, .func (.func 147) #[] #[]] w fun e w' => e = .returned (.tuple #[.int .i64 (placeN l key : Nat), .bool (isNode l key)]) ∧ BelL w w' := by
 have hl := h.len
 have := nodesB_len hs
 rw [← placeN_hit hs]
 exact bsNode_ (by omega) (nodeC_mono hs key)
theorem find_ {g t : Nat} {key : Int} {A B C : Option Addr} {n c m d k f : Nat} {l : List S40} {w : World} [hg : Blk w g #[.slice A n c, .slice B m d, .slice C k f] t] [h : Sr k40 w A n c l] (hs : nodesB l = true) :
 Calls Tryz.prog 96 #[.pointer (some ⟨g, 0, none⟩), .int .i64 key] w fun e w' => e = .returned (.tuple #[.int .i64 (placeN l key : Nat), .bool (isNode l key)]) ∧ BelL w w' := by
 have HC := Aside0.mk (bsNodeC_ (key := key) (A := A) (n := n) (c := c) (w := w) hs)
 clear h hs
 go_enter Tryz.func96, Tryz.ntmps96
 go_wp2_with (first | (go_at_call 146; (with_reducible refine cM (HC.out) ?_); rintro e wb ⟨rfl, hb⟩))
 go_ret2
 exact ⟨rfl, belL⟩
end
section
attribute [local go_sem] cell_tc2
def namedN1 (x : S40) : List Int := idsOf x.f1.f1 ++ x.f1.f2
def namedM1 (m : S126) : List Int := [m.f1, m.f2] ++ m.f3
def namedN (ns : List S40) : List Int := ns.flatMap namedN1
def namedM (ms : List S126) : List Int := ms.flatMap namedM1
theorem namedN_snoc {ns : List S40} {i : Nat} (h : i < ns.length) : namedN (ns.take (i + 1)) = namedN (ns.take i) ++ idsOf ns[i].f1.f1 ++ ns[i].f1.f2 := by
 unfold namedN; rw [List.take_succ_eq_append_getElem h, List.flatMap_append, List.append_assoc]; simp [namedN1]
theorem namedM_snoc {ms : List S126} {i : Nat} (h : i < ms.length) : namedM (ms.take (i + 1)) = namedM (ms.take i) ++ [ms[i].f1, ms[i].f2] ++ ms[i].f3 := by
 unfold namedM; rw [List.take_succ_eq_append_getElem h, List.flatMap_append, List.append_assoc]; simp [namedM1]
theorem flat_len {α : Type} (f : α → List Int) (b : Nat) : ∀ (l : List α), (∀ x ∈ l, (f x).length ≤ b) → (l.flatMap f).length ≤ l.length * b
 | [], _ => by simp
 | x :: l, h => by
   rw [List.flatMap_cons, List.length_append, List.length_cons, Nat.succ_mul]
   have h1 := h x (List.mem_cons_self ..)
   have h2 := flat_len f b l (fun y hy => h y (List.mem_cons_of_mem _ hy))
   omega
def smallN (ns : List S40) : Prop := ∀ x ∈ ns, x.f1.f1.length + x.f1.f2.length ≤ 16
def smallM (ms : List S126) : Prop := ∀ m ∈ ms, m.f3.length ≤ 16
theorem namedN_len {ns : List S40} (h : smallN ns) (i : Nat) : (namedN (ns.take i)).length ≤ i * 16 := by
 have := flat_len namedN1 16 (ns.take i) (fun x hx => by unfold namedN1; rw [List.length_append, idsOf_len]; exact h x (List.mem_of_mem_take hx))
 rw [List.length_take] at this
 have h2 : min i ns.length * 16 ≤ i * 16 := Nat.mul_le_mul_right _ (Nat.min_le_left _ _)
 exact Nat.le_trans this h2
theorem namedM_len {ms : List S126} (h : smallM ms) (i : Nat) : (namedM (ms.take i)).length ≤ i * 18 := by
 have := flat_len namedM1 18 (ms.take i) (fun m hm => by unfold namedM1; rw [List.length_append]; have := h m (List.mem_of_mem_take hm); simp; omega)
 rw [List.length_take] at this
 have h2 : min i ms.length * 18 ≤ i * 18 := Nat.mul_le_mul_right _ (Nat.min_le_left _ _)
 exact Nat.le_trans this h2
def namedL (ns : List S40) (ms : List S126) : List Int := namedN ns ++ namedM ms
set_option maxRecDepth 100000 in
set_option maxHeartbeats 4000000 in
theorem named0_ {g t : Nat} {A B C : Option Addr} {n c d k f : Nat} {ns : List S40} {ms : List S126} {w : World} [hg : Blk w g #[.slice A n c, .slice B 0 d, .slice C k f] t] [h : Sr k40 w A n c ns] [q : Sr k126 w C k f ms] (hn : n ≤ 8) (hk : k ≤ 512) (hsn : smallN ns) (hsm : smallM ms) :
 Calls Tryz.prog 94 #[.pointer (some ⟨g, 0, none⟩)] w fun e w' => ∃ A' c', e = .returned (.slice A' (namedN ns ++ namedM ms).length c') ∧ FrL kI 3 w' w.heap.size (Under w'.heap.size) A' (namedN ns ++ namedM ms).length c' (namedN ns ++ namedM ms) ∧ BelL w w' := by
 obtain rfl := h.len
 obtain rfl := q.len
 have s1 := sr_l h
 have s2 := sr_l q
 have hbk : BlkL w g #[.slice A ns.length c, .slice B 0 d, .slice C ms.length f] t := ⟨hg.out⟩
 have SN := Aside0.mk hsn
 have SM := Aside0.mk hsm
 clear h q hg hsn hsm
 go_enter Tryz.func94, Tryz.ntmps94
 go_wp2
 go_loopg [3, 4, 14] ns.length (fun kq v3 v4 v14 w' => ∃ (i : Nat) (A3 : Option Addr) (c3 : Nat), v14 = .int .i64 i ∧ v3 = .slice A3 (namedN (ns.take i)).length c3 ∧ i ≤ ns.length ∧ kq = ns.length - i ∧ FrL kI 3 w' w.heap.size (Under w'.heap.size) A3 (namedN (ns.take i)).length c3 (namedN (ns.take i)) ∧ BelL w w')
 case atStart => exact ⟨0, none, 0, rfl, rfl, Nat.zero_le _, rfl, frl_nil, belL⟩
 case round =>
  obtain ⟨i, A3, c3, rfl, rfl, hi, rfl, hF, hbr⟩ := hrel
  by_cases hlt : i < ns.length
  ·obtain ⟨ad, A2, c2, B3, d3, A4, c4, A5, c5, rfl, hx0, hx1, hx2, hx3, hx4, hx5, hg2, hg3, hg4, hg5⟩ := el_T40 (W := w) (A := A) (n := ns.length) (c := c) (l := ns) i hlt
   have hv : VAtL w ⟨(ad.add (i * 6)).block, (ad.add (i * 6)).off + 1, none⟩ ns[i].f1.f0 A2 ns[i].f1.f1.length c2 B3 ns[i].f1.f2.length d3 := ⟨hx1.out, hx2.out, hx3.out⟩
   have hb1 := namedN_len SN.out i
   have hb2 := SN.out ns[i] (List.getElem_mem hlt)
   have HS := Aside0.mk (namedN_snoc hlt)
   have HSL : Aside0 ((namedN (ns.take (i + 1))).length = (namedN (ns.take i)).length + ns[i].f1.f1.length + ns[i].f1.f2.length) := ⟨by rw [HS.out, List.length_append, List.length_append, idsOf_len]⟩
   go_wp2_with (first | (go_at_call 141; (with_reducible refine cM (ids_ (by omega)) ?_); rintro e w9 ⟨A9, c9, rfl, hF9, hb9⟩) | ((with_reducible refine gate_dst (N := 26) rfl ?_); refine app_tc (k := kI) (t := 23) (A := A3) (n := (namedN (ns.take i)).length) (c := c3) (B := A9) (m := ns[i].f1.f1.length) (d := c9) (by rfl) (by rfl) Tryz.underlying23 (by rfl) (by rfl) (by omega) ?_; intro A6 c6 w6 _ _ _) | ((with_reducible refine gate_dst (N := 37) rfl ?_); refine app_tc (k := kI) (t := 23) (A := A6) (n := (namedN (ns.take i)).length + ns[i].f1.f1.length) (c := c6) (B := B3) (m := ns[i].f1.f2.length) (d := d3) (by rfl) (by rfl) Tryz.underlying23 (by rfl) (by rfl) (by omega) ?_; intro A7 c7 w7 _ _ _))
   go_roundg (ns.length - (i + 1))
   case measure => omega
   case rel => exact ⟨i + 1, _, _, by go_num, by rw [HSL.out], by omega, rfl, by rw [HSL.out, HS.out]; exact frl, belL⟩
  ·obtain rfl : i = ns.length := by omega
   have hb1 := namedN_len SN.out ns.length
   rw [List.take_length] at hF hb1
   rw [List.take_length]
   generalize hN0 : namedN ns = N0 at hF hb1
   have HN0 := Aside0.mk hN0
   clear hN0
   go_wp2
   go_loopg [3, 6, 44] 0 (fun kq v3 v6 v44 w' => ∃ (A3 : Option Addr) (c3 : Nat), v44 = .int .i64 0 ∧ v3 = .slice A3 N0.length c3 ∧ FrL kI 3 w' w.heap.size (Under w'.heap.size) A3 N0.length c3 N0 ∧ BelL w w')
   case atStart => exact ⟨A3, c3, rfl, rfl, frl, belL⟩
   case round =>
    clear hF
    obtain ⟨A7, c7, rfl, rfl, hF7, hbr7⟩ := hrel
    go_wp2
    go_loopg [3, 8, 61] ms.length (fun kq v3 v8 v61 w' => ∃ (i : Nat) (A3 : Option Addr) (c3 : Nat), v61 = .int .i64 i ∧ v3 = .slice A3 (N0 ++ namedM (ms.take i)).length c3 ∧ i ≤ ms.length ∧ kq = ms.length - i ∧ FrL kI 3 w' w.heap.size (Under w'.heap.size) A3 (N0 ++ namedM (ms.take i)).length c3 (N0 ++ namedM (ms.take i)) ∧ BelL w w')
    case atStart => exact ⟨0, A7, c7, rfl, by rw [show N0 ++ namedM (ms.take 0) = N0 by simp [namedM]], Nat.zero_le _, rfl, by rw [show N0 ++ namedM (ms.take 0) = N0 by simp [namedM]]; exact frl, belL⟩
    case round =>
     clear hF7
     obtain ⟨i, A8, c8, rfl, rfl, hi8, rfl, hF8, hbr8⟩ := hrel
     by_cases hlt8 : i < ms.length
     ·obtain ⟨ad, A9, c9, rfl, hy0, hy1, hy2, hy3, hy4, hy5, hy6, hy7, hy8, hy9, hy10, hs9⟩ := el_T126 (W := w) (A := C) (n := ms.length) (c := f) (l := ms) i hlt8
      have hm1 := namedM_len SM.out i
      have hm2 := SM.out ms[i] (List.getElem_mem hlt8)
      have hm3 : (N0 ++ namedM (ms.take i)).length = N0.length + (namedM (ms.take i)).length := List.length_append
      have HS8 := Aside0.mk (show N0 ++ namedM (ms.take (i + 1)) = N0 ++ namedM (ms.take i) ++ [ms[i].f1, ms[i].f2] ++ ms[i].f3 by rw [namedM_snoc hlt8]; simp)
      have HSL8 : Aside0 ((N0 ++ namedM (ms.take (i + 1))).length = (N0 ++ namedM (ms.take i)).length + 2 + ms[i].f3.length) := ⟨by rw [HS8.out, List.length_append, List.length_append]; rfl⟩
      have hm4 : (N0 ++ namedM (ms.take i)).length ≤ 100000 := by omega
      generalize N0 ++ namedM (ms.take i) = N1 at hF8 HS8 HSL8 hm4
      clear hm3
      go_wp2_with (first | (with_reducible refine box_tc rfl (N := 8) rfl (cs := #[.int .i64 0, .int .i64 0, .int .i64 0, .slice none 0 0, .int .i64 0, .int .i64 0, .int .i64 0, .int .i64 0, .int .i64 0, .bool false, .bool false]) (t := 126) ?hr ?_; (case hr => go_simp <;> rfl); intro g1 wg1 _ _ _) | (with_reducible refine lit_tc rfl (N := 70) rfl (cs := #[.int .i64 ms[i].f1, .int .i64 ms[i].f2]) (t := 3) (m := 2) ?hr ?_; (case hr => go_simp <;> rfl); intro g2 wg2 _ _ _) | ((with_reducible refine gate_dst (N := 71) rfl ?_); refine app_tc (k := kI) (t := 23) (A := A8) (n := N1.length) (c := c8) (B := some ⟨g2, 0, none⟩) (m := 2) (d := 2) (by rfl) (by rfl) Tryz.underlying23 (by rfl) (by rfl) (by omega) ?_; intro A6 c6 w6 _ _ _) | ((with_reducible refine gate_dst (N := 75) rfl ?_); refine app_tc (k := kI) (t := 23) (A := A6) (n := N1.length + 2) (c := c6) (B := A9) (m := ms[i].f3.length) (d := c9) (by rfl) (by rfl) Tryz.underlying23 (by rfl) (by rfl) (by omega) ?_; intro A7 c7 w7 _ _ _))
      go_roundg (ms.length - (i + 1))
      case measure => omega
      case rel => exact ⟨i + 1, _, _, by go_num, by rw [HSL8.out], by omega, rfl, by rw [HSL8.out, HS8.out]; exact frl, belL⟩
     ·obtain rfl : i = ms.length := by omega
      rw [List.take_length] at hF8
      rw [List.take_length]
      go_wp2
      go_ret
      exact ⟨_, _, by rw [HN0.out]; rfl, by rw [HN0.out]; exact frl, belL⟩
theorem named_ {g t : Nat} {A B C : Option Addr} {n c d k f : Nat} {ns : List S40} {ms : List S126} {w : World} [hg : Blk w g #[.slice A n c, .slice B 0 d, .slice C k f] t] [h : Sr k40 w A n c ns] [q : Sr k126 w C k f ms] (hn : n ≤ 8) (hk : k ≤ 512) (hsn : smallN ns) (hsm : smallM ms) :
 Calls Tryz.prog 94 #[.pointer (some ⟨g, 0, none⟩)] w fun e w' => ∃ A' c', e = .returned (.slice A' (namedL ns ms).length c') ∧ FrL kI 3 w' w.heap.size (Under w'.heap.size) A' (namedL ns ms).length c' (namedL ns ms) ∧ BelL w w' := named0_ hn hk hsn hsm
end
section
attribute [local go_sem] cell_tc2
theorem cutsMay0_ {B : Option Addr} {d : Nat} {w : World} : Calls Tryz.prog 91 #[.slice B 0 d] w fun e w' => e = .returned (.bool true) ∧ BelL w w' := by
 go_enter Tryz.func91, Tryz.ntmps91
 go_wp2
 go_loopg [3, 4, 7] 0 (fun kq v3 v4 v7 w' => v7 = .int .i64 0 ∧ BelL w w')
 case atStart => exact ⟨rfl, belL⟩
 case round =>
  obtain ⟨rfl, hbr⟩ := hrel
  go_wp2
  go_ret
  exact ⟨rfl, belL⟩
theorem may1_ {g t : Nat} {x : Int} {A B C : Option Addr} {n c m d k f : Nat} {l : List S40} {w : World} [hg : Blk w g #[.slice A n c, .slice B m d, .slice C k f] t] [h : Sr k40 w A n c l] (hs : nodesB l = true) :
 Calls Tryz.prog 95 #[.int .i64 x, .pointer (some ⟨g, 0, none⟩)] w fun e w' => e = .returned (.bool (!isNode l x)) ∧ BelL w w' := by
 have HC := Aside0.mk (find_ (key := x) (g := g) (A := A) (B := B) (C := C) (n := n) (c := c) (m := m) (d := d) (k := k) (f := f) (w := w) hs)
 clear h hs
 go_enter Tryz.func95, Tryz.ntmps95
 go_wp2_with (first | (go_at_call 96; (with_reducible refine cM (HC.out) ?_); rintro e wb ⟨rfl, hb⟩))
 go_ret
 exact ⟨rfl, belL⟩
def strayB (ns : List S40) (l : List Int) : Bool := l.any fun x => !isNode ns x
theorem stray_ {g t : Nat} {A B C A2 : Option Addr} {n c m d k f n2 c2 : Nat} {ns : List S40} {l : List Int} {w : World} [hg : Blk w g #[.slice A n c, .slice B m d, .slice C k f] t] [h : Sr k40 w A n c ns] [q : Sr kI w A2 n2 c2 l] (hs : nodesB ns = true) :
 Calls Tryz.prog 93 #[.slice A2 n2 c2, .func (.func 95) #[] #[.pointer (some ⟨g, 0, none⟩)]] w fun e w' => e = .returned (.bool (strayB ns l)) ∧ BelL w w' := by
 obtain rfl := q.len
 refine (anyInt 95 #[.pointer (some ⟨g, 0, none⟩)] (enters_of Tryz.func95 (by kernel_rfl) rfl) (fun x => !isNode ns x) A2 c2 l w q.C q.le (fun W hb i hi => ?_)).mono fun _ _ ⟨a, b⟩ => ⟨a, ⟨b⟩⟩
 have hb' : BelL w W := ⟨hb⟩
 have hs' : SrL k40 w A n c ns := sr_l h
 exact (may1_ (t := t) (g := g) (A := A) (B := B) (C := C) (n := n) (c := c) (m := m) (d := d) (k := k) (f := f) hs).mono fun _ _ ⟨a, b⟩ => ⟨a, b.out⟩
def mayB (ns : List S40) (ms : List S126) : Bool := nodesB ns && queueB ms && !strayB ns (namedL ns ms)
theorem nodeB_view {x : S40} (h : nodeB x = true) : viewB x.f1.f0 x.f1.f1 x.f1.f2 = true := by
 unfold nodeB at h; simp only [Bool.and_eq_true] at h; exact h.1.1.1.2
theorem nodesB_small {ns : List S40} (h : nodesB ns = true) : smallN ns := by
 intro x hx
 obtain ⟨i, hi, rfl⟩ := List.getElem_of_mem hx
 exact viewB_len (nodeB_view (nodesB_at h i hi).1)
theorem noneB_len {n : Nat} {k : Int} {i : S48} {h : Bool} (q : noneB n k i h = true) : n = 0 := by
 unfold noneB at q; simp only [Bool.and_eq_true, beq_iff_eq] at q; exact q.1.1.1
theorem msgB_ids {m : S126} (h : msgB m = true) : m.f3.length ≤ 16 := by
 unfold msgB kindB at h
 simp only [Bool.and_eq_true] at h
 have h2 := h.2
 split at h2
 ·simp only [Bool.and_eq_true, decide_eq_true_eq] at h2; exact h2.1.2
 ·split at h2
  ·simp only [Bool.and_eq_true] at h2; have := noneB_len h2.1; omega
  ·split at h2
   ·simp only [Bool.and_eq_true] at h2; have := noneB_len h2.1; omega
   ·split at h2
    ·simp only [Bool.and_eq_true] at h2; have := noneB_len h2.1.1; omega
    ·cases h2
theorem queueB_len {ms : List S126} (h : queueB ms = true) : ms.length ≤ 512 := by
 unfold queueB at h; simp only [Bool.and_eq_true, decide_eq_true_eq] at h; exact h.1
theorem queueB_msg {ms : List S126} (h : queueB ms = true) {m : S126} (hm : m ∈ ms) : msgB m = true := by
 unfold queueB at h
 simp only [Bool.and_eq_true] at h
 have h2 : badMsgs ms = false := by simpa using h.2
 unfold badMsgs at h2
 rw [List.any_eq_false] at h2
 simpa using h2 m hm
theorem queueB_small {ms : List S126} (h : queueB ms = true) : smallM ms := fun m hm => msgB_ids (queueB_msg h hm)
set_option maxRecDepth 100000 in
set_option maxHeartbeats 2000000 in
theorem worldMay_ {A B C : Option Addr} {n c d k f : Nat} {ns : List S40} {ms : List S126} {w : World} [h : Sr k40 w A n c ns] [q : Sr k126 w C k f ms] (hz : nodesSz ns) :
 Calls Tryz.prog 33 #[.agg #[.slice A n c, .slice B 0 d, .slice C k f]] w fun e w' => e = .returned (.bool (mayB ns ms)) ∧ BelL w w' := by
 obtain rfl := h.len
 obtain rfl := q.len
 have s1 := sr_l h
 have s2 := sr_l q
 have HZ := Aside0.mk hz
 clear h q hz
 cases h1 : nodesB ns
 ·rw [show mayB ns ms = false by simp [mayB, h1]]
  go_enter Tryz.func33, Tryz.ntmps33
  go_wp2_with (first | (with_reducible refine box_tc rfl (N := 1) rfl (cs := #[.slice A ns.length c, .slice B 0 d, .slice C ms.length f]) (t := 61) ?hr ?_; (case hr => go_simp <;> rfl); intro g1 wg1 _ _ _) | (go_at_call 90; (with_reducible refine cM (nodes_ HZ.out) ?_); rintro e wb ⟨rfl, hb⟩) | (go_at_call 91; (with_reducible refine cM (cutsMay0_) ?_); rintro e wb ⟨rfl, hb⟩) | (go_at_call 92; (with_reducible refine cM (queueMay_) ?_); rintro e wb ⟨rfl, hb⟩))
  go_ret
  exact ⟨rfl, belL⟩
 ·cases h2 : queueB ms
  ·rw [show mayB ns ms = false by simp [mayB, h2]]
   go_enter Tryz.func33, Tryz.ntmps33
   go_wp2_with (first | (with_reducible refine box_tc rfl (N := 1) rfl (cs := #[.slice A ns.length c, .slice B 0 d, .slice C ms.length f]) (t := 61) ?hr ?_; (case hr => go_simp <;> rfl); intro g1 wg1 _ _ _) | (go_at_call 90; (with_reducible refine cM (nodes_ HZ.out) ?_); rintro e wb ⟨rfl, hb⟩) | (go_at_call 91; (with_reducible refine cM (cutsMay0_) ?_); rintro e wb ⟨rfl, hb⟩) | (go_at_call 92; (with_reducible refine cM (queueMay_) ?_); rintro e wb ⟨rfl, hb⟩))
   go_ret
   exact ⟨rfl, belL⟩
  ·rw [show mayB ns ms = !strayB ns (namedL ns ms) by simp [mayB, h1, h2]]
   have L1 := (nodesB_len h1).2
   have L2 := queueB_len h2
   have L3 := nodesB_small h1
   have L4 := queueB_small h2
   have H3 := Aside0.mk L3
   have H4 := Aside0.mk L4
   clear L3 L4
   go_enter Tryz.func33, Tryz.ntmps33
   go_wp2_with (first | (with_reducible refine box_tc rfl (N := 1) rfl (cs := #[.slice A ns.length c, .slice B 0 d, .slice C ms.length f]) (t := 61) ?hr ?_; (case hr => go_simp <;> rfl); intro g1 wg1 _ _ _) | (go_at_call 90; (with_reducible refine cM (nodes_ HZ.out) ?_); rintro e wb ⟨rfl, hb⟩) | (go_at_call 91; (with_reducible refine cM (cutsMay0_) ?_); rintro e wb ⟨rfl, hb⟩) | (go_at_call 92; (with_reducible refine cM (queueMay_) ?_); rintro e wb ⟨rfl, hb⟩) | (go_at_call 94; (with_reducible refine cM (named_ (by omega) (by omega) H3.out H4.out) ?_); rintro e w2 ⟨A2, c2, rfl, hF2, hb2⟩) | (go_at_call 93; (with_reducible refine cM (stray_ h1) ?_); rintro e wb ⟨rfl, hb⟩))
   go_ret
   exact ⟨rfl, belL⟩
end
end Go.Proofs.YtljipbmmgcccnaaGreat.T
end
