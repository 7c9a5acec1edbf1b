/- Words and lemmas that the claim's proof names, part 15: what the program's functions answer, at the inputs that each theorem's premises name. Conditions: each theorem's own premises. -/
import Derived.Test.YtljipbmmgcccnaaGreatKW14
section
namespace Go.Proofs.YtljipbmmgcccnaaGreat.T
open Go.RowKit Go.Proofs.YtljipbmmgcccnaaGreatW.PrintWords Go.Proofs.YtljipbmmgcccnaaGreatW.PrintLast Go.Proofs.YtljipbmmgcccnaaGreatW.PrintMore
attribute [local go_sem] cell_tc frozen_tc max2_int min2_int
attribute [local go_sem ↓] Go.wp_at_zero Go.wp_at_succ
set_option linter.unusedVariables false
set_option linter.unusedSimpArgs false
set_option synthInstance.maxHeartbeats 400000
set_option synthInstance.maxSize 512
attribute [local go_sem] cell_tc2
attribute [local go_sem high] eqA46 eqA98 eqA77 eqA48
theorem nodeB_bare3 {id o : Int} {ps : List S98} {xs : List Int} {is : List S48} {ls : List S77} (hn : nodeB ⟨true, ⟨id, ps, xs⟩, is, ls⟩ = true) (ho : placeB o = true) : nodeB ⟨true, ⟨o, [], []⟩, is, ls⟩ = true := by
  obtain ⟨n0, n1, n2, n3, n4⟩ := nodeB_iff.1 hn
  exact nodeB_iff.2 ⟨.inl rfl, viewB_iff.1 (by unfold viewB peersB passB; simp [ho]), n2, n3, n4⟩
theorem newer_in {C a b : Int} {q : Bool} (h : decide (b < a) = q) (hv : verB C a = true) (hw : verB C b = true) : newerR C a C b = q := by
  unfold newerR newerB
  rw [hv, hw, ← h]
  simp
set_option maxRecDepth 100000 in
set_option maxHeartbeats 16000000 in
theorem tw_e1 {id key u other : Int} {A B I L : Option Addr} {n c m d ni ci nl cl : Nat} {ps : List S98} {xs : List Int} {is : List S48} {ls : List S77} {w : World} [h1 : Sr k98 w A n c ps] [h2 : Sr kI w B m d xs] [h3 : Sr k48 w I ni ci is] [h4 : Sr k77 w L nl cl ls]
    (l1 : n * 16 ≤ 140737488351232) (l2 : m * 8 ≤ 140737488351232) (l3 : ni * 40 ≤ 140737488351232) (l4 : nl * 24 ≤ 140737488351232) (hn : nodeB ⟨true, ⟨id, ps, xs⟩, is, ls⟩ = true) (hw : writeB id is (bits BinOp.and IntKind.i64 key 255) (bits BinOp.and IntKind.i64 u 255) false = true) (hw2 : writeB (bits BinOp.and IntKind.i64 other 255) is (bits BinOp.and IntKind.i64 key 255) 0 true = true) (hne : id ≠ (bits BinOp.and IntKind.i64 other 255)) (hq : decide ((bits BinOp.and IntKind.i64 other 255) < id) = true) :
    Calls Tryz.prog 4 #[.agg #[.bool true, .int .i64 id, .slice A n c, .slice B m d, .slice I ni ci, .slice L nl cl], .int .i64 key, .int .i64 u, .int .i64 other] w fun e w' => e = .returned (.bool true) ∧ BelL w w' := by
  obtain rfl := h1.len
  obtain rfl := h2.len
  obtain rfl := h3.len
  obtain rfl := h4.len
  have s1 := sr_l h1
  have s2 := sr_l h2
  have s3 := sr_l h3
  have s4 := sr_l h4
  clear h1 h2 h3 h4
  have HK := Aside0.mk (place255 key)
  have HV := Aside0.mk (place255 u)
  have HO := Aside0.mk (place255 other)
  obtain ⟨C, z, x1, y1, p1, q1, b1, e1, n1, hz, m1, m2, ib1, ib2⟩ := two_writes hn (place255 key) (place255 u) (place255 other) hw hw2 hne
  have hz2 : newerR C id C (bits BinOp.and IntKind.i64 other 255) = true ∧ z = ⟨(bits BinOp.and IntKind.i64 key 255), ⟨C, id⟩, (bits BinOp.and IntKind.i64 u 255), false⟩ := by
    rcases hz with ⟨h1, h2⟩ | ⟨h1, h2⟩
    · first | exact ⟨h1, h2⟩ | exact absurd (h1.symm.trans (newer_in hq (itemOk_ver ib1) (itemOk_ver ib2))) (by decide)
    · first | exact ⟨h1, h2⟩ | exact absurd (h1.symm.trans (newer_in hq (itemOk_ver ib1) (itemOk_ver ib2))) (by decide)
  obtain ⟨hr, rfl⟩ := hz2
  clear hz hq
  generalize hX : (putL is (writeI id is (bits BinOp.and IntKind.i64 key 255) (bits BinOp.and IntKind.i64 u 255) false)) = X at x1 p1 m1
  generalize hY : (putL is (writeI (bits BinOp.and IntKind.i64 other 255) is (bits BinOp.and IntKind.i64 key 255) 0 true)) = Y at y1 q1 m2
  have EX := Aside0.mk hX
  have EY := Aside0.mk hY
  clear hX hY
  have HM := Aside0.mk (nodeB_bare3 (o := (bits BinOp.and IntKind.i64 other 255)) hn (place255 other))
  have HN := Aside0.mk hn
  have HB := Aside0.mk (old_bounds hn (bits BinOp.and IntKind.i64 key 255))
  clear hn
  have QX := Aside0.mk x1
  have QY := Aside0.mk y1
  have QP := Aside0.mk p1
  have QQ := Aside0.mk q1
  have QB := Aside0.mk b1
  have QE := Aside0.mk e1
  have QN := Aside0.mk n1
  have QR := Aside0.mk hr
  have QM := Aside0.mk m1
  have QM2 := Aside0.mk m2
  have QI := Aside0.mk ib1
  have QJ := Aside0.mk ib2
  clear x1 y1 p1 q1 b1 e1 n1 hr m1 m2 ib1 ib2
  have HW := Aside0.mk hw
  have HW2 := Aside0.mk hw2
  have HI : (id == (bits BinOp.and IntKind.i64 other 255)) = false := beq_false_of_ne hne
  clear hw hw2 hne
  go_enter Tryz.func4, Tryz.ntmps4
  go_upto_region 6 with (first | ((with_reducible refine gate_dst (N := 4) rfl ?_); refine box_tc ?hg (N := 4) ?hd (cs := #[.bool true, .int .i64 id, .slice A ps.length c, .slice B xs.length d, .slice I is.length ci, .slice L ls.length cl]) (t := 40) ?hr ?_; (case hd => rfl); (case hg => rfl); (case hr => first | (go_simp; done) | (go_simp; rfl)); intro g4 wg4 _ _ _) | (go_at_call 9; (with_reducible refine Calls.mono awake_ ?_); rintro e wa ⟨rfl, hba⟩) | (go_at_call 15; (with_reducible refine Calls.mono (copyNode_ (ps := ps) (xs := xs) (is := is) (ls := ls) (by omega) (by omega) (by omega) (by omega)) ?_); rintro e w9 ⟨v, rfl, ⟨A9, c9, B9, d9, I9, ci9, L9, cl9, rfl, hF9, hG9, hH9, hK9⟩, hb9⟩; simp only at hF9 hG9 hH9 hK9 ⊢; have hB4a : BlkL w9 g4 #[.bool true, .int .i64 id, .slice A ps.length c, .slice B xs.length d, .slice I is.length ci, .slice L ls.length cl] 40 := blkL; have hbw9 : BelL w w9 := belL) | ((with_reducible refine gate_dst (N := 10) rfl ?_); refine box_tc ?hg (N := 10) ?hd (cs := #[.bool false, .int .i64 0, .slice none 0 0, .slice none 0 0, .slice none 0 0, .slice none 0 0]) (t := 40) ?hr ?_; (case hd => rfl); (case hg => rfl); (case hr => first | (go_simp; done) | (go_simp; rfl)); intro g10 wg10 _ _ _))
  go_upto_region 7 with (first | (go_at_call 16; (with_reducible refine Calls.mono (put16_ (ps := ps) (xs := xs) (is := is) (ls := ls) HN.out HK.out HV.out HW.out HB.out.1) ?_); rintro e w16 ⟨v16, rfl, ⟨A16, c16, B16, d16, I16, ci16, L16, cl16, rfl, hF16, hG16, hH16, hK16⟩, hb16⟩; simp only at hF16 hG16 hH16 hK16 ⊢; rw [EX.out] at hH16 ⊢; have hB4b : BlkL w16 g4 #[.bool true, .int .i64 id, .slice A ps.length c, .slice B xs.length d, .slice I is.length ci, .slice L ls.length cl] 40 := blkL; have hB10b : BlkL w16 g10 #[.bool true, .int .i64 (bits BinOp.and IntKind.i64 other 255), .slice none 0 0, .slice none 0 0, .slice I9 is.length ci9, .slice L9 ls.length cl9] 40 := blkL; have hbw16 : BelL w w16 := belL) | ((with_reducible refine gate_dst (N := 11) rfl ?_); refine box_tc ?hg (N := 11) ?hd (cs := #[.bool false, .int .i64 0, .slice none 0 0, .slice none 0 0, .slice none 0 0, .slice none 0 0]) (t := 40) ?hr ?_; (case hd => rfl); (case hg => rfl); (case hr => first | (go_simp; done) | (go_simp; rfl)); intro g11 wg11 _ _ _))
  go_upto_region 8 with (first | (go_at_call 17; (with_reducible refine Calls.mono (drop17_ (ps := []) (xs := []) (is := is) (ls := ls) HM.out HK.out HW2.out HB.out.1) ?_); rintro e w17 ⟨v17, rfl, ⟨A17, c17, B17, d17, I17, ci17, L17, cl17, rfl, hF17, hG17, hH17, hK17⟩, hb17⟩; simp only [List.length_nil] at hF17 hG17 hH17 hK17 ⊢; rw [EY.out] at hH17 ⊢; have hB4 : BlkL w17 g4 #[.bool true, .int .i64 id, .slice A ps.length c, .slice B xs.length d, .slice I is.length ci, .slice L ls.length cl] 40 := blkL; have hB10 : BlkL w17 g10 #[.bool true, .int .i64 (bits BinOp.and IntKind.i64 other 255), .slice none 0 0, .slice none 0 0, .slice I9 is.length ci9, .slice L9 ls.length cl9] 40 := blkL; have hbw17 : BelL w w17 := belL) | ((with_reducible refine gate_dst (N := 13) rfl ?_); refine box_tc ?hg (N := 13) ?hd (cs := #[.bool false, .int .i64 0, .slice none 0 0, .slice none 0 0, .slice none 0 0, .slice none 0 0]) (t := 40) ?hr ?_; (case hd => rfl); (case hg => rfl); (case hr => first | (go_simp; done) | (go_simp; rfl)); intro g13 wg13 _ _ _))
  go_upto_region 10 with (first | (go_at_call 11; (with_reducible refine Calls.mono (num _ _) ?_); rintro e w' ⟨rfl, ⟨nd, rfl⟩⟩))
  refine wp_letter fun wa hwa => ?_
  have B11 : BlkL wa g11 #[.bool true, .int .i64 id, .slice A16 ps.length c16, .slice B16 xs.length d16, .slice I16 X.length ci16, .slice L16 ls.length cl16] 40 := blkL
  have B13 : BlkL wa g13 #[.bool true, .int .i64 (bits BinOp.and IntKind.i64 other 255), .slice A17 0 c17, .slice B17 0 d17, .slice I17 Y.length ci17, .slice L17 ls.length cl17] 40 := blkL
  have p1 : SrL k98 wa A16 ps.length c16 ps := sr_l inferInstance
  have p2 : SrL kI wa B16 xs.length d16 xs := sr_l inferInstance
  have p3 : SrL k48 wa I16 X.length ci16 X := sr_l inferInstance
  have p4 : SrL k77 wa L16 ls.length cl16 ls := sr_l inferInstance
  have q1 : SrL k98 wa A17 0 c17 [] := sr_l inferInstance
  have q2 : SrL kI wa B17 0 d17 [] := sr_l inferInstance
  have q3 : SrL k48 wa I17 Y.length ci17 Y := sr_l inferInstance
  have q4 : SrL k77 wa L17 ls.length cl17 ls := sr_l inferInstance
  have hwa2 : BelL w wa := belL
  go_upto_region 11 with (first | (go_at_call 18; (with_reducible refine Calls.mono (get_ (l := X)) ?_); rw [QX.out]; rintro e wx ⟨rfl, hbwx⟩; simp only [Option.getD_some, Option.isSome_some, itemV]) | ((with_reducible refine gate_dst (N := 15) rfl ?_); refine box_tc ?hg (N := 15) ?hd (cs := #[.int .i64 0, .int .i64 0, .int .i64 0, .int .i64 0, .bool false]) (t := 48) ?hr ?_; (case hd => rfl); (case hg => rfl); (case hr => first | (go_simp; done) | (go_simp; rfl)); intro g15 wg15 _ _ _))
  go_upto_region 12 with (first | (go_at_call 18; (with_reducible refine Calls.mono (get_ (l := Y)) ?_); rw [QY.out]; rintro e wy ⟨rfl, hbwy⟩; simp only [Option.getD_some, Option.isSome_some, itemV]) | ((with_reducible refine gate_dst (N := 17) rfl ?_); refine box_tc ?hg (N := 17) ?hd (cs := #[.int .i64 0, .int .i64 0, .int .i64 0, .int .i64 0, .bool false]) (t := 48) ?hr ?_; (case hd => rfl); (case hg => rfl); (case hr => first | (go_simp; done) | (go_simp; rfl)); intro g17 wg17 _ _ _))
  refine wp_letter fun wb hwb => ?_
  have B11_wb : BlkL wb g11 #[.bool true, .int .i64 id, .slice A16 ps.length c16, .slice B16 xs.length d16, .slice I16 X.length ci16, .slice L16 ls.length cl16] 40 := blkL
  have B13_wb : BlkL wb g13 #[.bool true, .int .i64 (bits BinOp.and IntKind.i64 other 255), .slice A17 0 c17, .slice B17 0 d17, .slice I17 Y.length ci17, .slice L17 ls.length cl17] 40 := blkL
  have p1_wb : SrL k98 wb A16 ps.length c16 ps := sr_l inferInstance
  have p2_wb : SrL kI wb B16 xs.length d16 xs := sr_l inferInstance
  have p3_wb : SrL k48 wb I16 X.length ci16 X := sr_l inferInstance
  have p4_wb : SrL k77 wb L16 ls.length cl16 ls := sr_l inferInstance
  have q1_wb : SrL k98 wb A17 0 c17 [] := sr_l inferInstance
  have q2_wb : SrL kI wb B17 0 d17 [] := sr_l inferInstance
  have q3_wb : SrL k48 wb I17 Y.length ci17 Y := sr_l inferInstance
  have q4_wb : SrL k77 wb L17 ls.length cl17 ls := sr_l inferInstance
  have B15 : BlkL wb g15 #[.int .i64 (bits BinOp.and IntKind.i64 key 255), .int .i64 C, .int .i64 id, .int .i64 (bits BinOp.and IntKind.i64 u 255), .bool false] 48 := blkL
  have B17 : BlkL wb g17 #[.int .i64 (bits BinOp.and IntKind.i64 key 255), .int .i64 C, .int .i64 (bits BinOp.and IntKind.i64 other 255), .int .i64 0, .bool true] 48 := blkL
  have hw_wb : BelL w wb := belL
  go_upto_region 13 with (first | (go_at_call 19; (with_reducible refine Calls.mono (takeItem_ (ps := ps) (xs := xs) (is := X) (ls := ls) QM.out QJ.out) ?_); rintro e w19 ⟨v19, rfl, ⟨A19, c19, B19, d19, I19, ci19, L19, cl19, rfl, hF19, hG19, hH19, hK19⟩, hb19⟩; (try simp only [List.length_nil] at hF19 hG19 hH19 hK19 ⊢)) | ((with_reducible refine gate_dst (N := 19) rfl ?_); refine box_tc ?hg (N := 19) ?hd (cs := #[.bool false, .int .i64 0, .slice none 0 0, .slice none 0 0, .slice none 0 0, .slice none 0 0]) (t := 40) ?hr ?_; (case hd => rfl); (case hg => rfl); (case hr => first | (go_simp; done) | (go_simp; rfl)); intro g19 wg19 _ _ _))
  go_upto_region 14 with (first | (go_at_call 19; (with_reducible refine Calls.mono (takeItem_ (ps := []) (xs := []) (is := Y) (ls := ls) QM2.out QI.out) ?_); rintro e w21 ⟨v21, rfl, ⟨A21, c21, B21, d21, I21, ci21, L21, cl21, rfl, hF21, hG21, hH21, hK21⟩, hb21⟩; (try simp only [List.length_nil] at hF21 hG21 hH21 hK21 ⊢)) | ((with_reducible refine gate_dst (N := 21) rfl ?_); refine box_tc ?hg (N := 21) ?hd (cs := #[.bool false, .int .i64 0, .slice none 0 0, .slice none 0 0, .slice none 0 0, .slice none 0 0]) (t := 40) ?hr ?_; (case hd => rfl); (case hg => rfl); (case hr => first | (go_simp; done) | (go_simp; rfl)); intro g21 wg21 _ _ _))
  refine wp_letter fun wc hwc => ?_
  have C15_wc : BlkL wc g15 #[.int .i64 (bits BinOp.and IntKind.i64 key 255), .int .i64 C, .int .i64 id, .int .i64 (bits BinOp.and IntKind.i64 u 255), .bool false] 48 := blkL
  have C17_wc : BlkL wc g17 #[.int .i64 (bits BinOp.and IntKind.i64 key 255), .int .i64 C, .int .i64 (bits BinOp.and IntKind.i64 other 255), .int .i64 0, .bool true] 48 := blkL
  have C19_wc : BlkL wc g19 #[.bool true, .int .i64 id, .slice A19 ps.length c19, .slice B19 xs.length d19, .slice I19 (takeL X ⟨(bits BinOp.and IntKind.i64 key 255), ⟨C, (bits BinOp.and IntKind.i64 other 255)⟩, 0, true⟩).length ci19, .slice L19 ls.length cl19] 40 := blkL
  have C21_wc : BlkL wc g21 #[.bool true, .int .i64 (bits BinOp.and IntKind.i64 other 255), .slice A21 0 c21, .slice B21 0 d21, .slice I21 (takeL Y ⟨(bits BinOp.and IntKind.i64 key 255), ⟨C, id⟩, (bits BinOp.and IntKind.i64 u 255), false⟩).length ci21, .slice L21 ls.length cl21] 40 := blkL
  have r3_wc : SrL k48 wc I19 (takeL X ⟨(bits BinOp.and IntKind.i64 key 255), ⟨C, (bits BinOp.and IntKind.i64 other 255)⟩, 0, true⟩).length ci19 (takeL X ⟨(bits BinOp.and IntKind.i64 key 255), ⟨C, (bits BinOp.and IntKind.i64 other 255)⟩, 0, true⟩) := sr_l inferInstance
  have r4_wc : SrL k48 wc I21 (takeL Y ⟨(bits BinOp.and IntKind.i64 key 255), ⟨C, id⟩, (bits BinOp.and IntKind.i64 u 255), false⟩).length ci21 (takeL Y ⟨(bits BinOp.and IntKind.i64 key 255), ⟨C, id⟩, (bits BinOp.and IntKind.i64 u 255), false⟩) := sr_l inferInstance
  have hv_wc : BelL w wc := belL
  go_upto_region 15 with (first | (go_at_call 20; (with_reducible refine Calls.mono best_ ?_); rw [QB.out, QE.out]; rintro e w20 ⟨rfl, hb20⟩; simp only [itemV]) | ((with_reducible refine gate_dst (N := 23) rfl ?_); refine box_tc ?hg (N := 23) ?hd (cs := #[.int .i64 0, .int .i64 0, .int .i64 0, .int .i64 0, .bool false]) (t := 48) ?hr ?_; (case hd => rfl); (case hg => rfl); (case hr => first | (go_simp; done) | (go_simp; rfl)); intro g23 wg23 _ _ _))
  go_upto_region 16 with (first | (go_at_call 21; (with_reducible refine Calls.mono newer_ ?_); rw [QR.out, QN.out]; rintro e w21 ⟨rfl, hb21⟩))
  refine wp_letter fun wd hwd => ?_
  have C15_wd : BlkL wd g15 #[.int .i64 (bits BinOp.and IntKind.i64 key 255), .int .i64 C, .int .i64 id, .int .i64 (bits BinOp.and IntKind.i64 u 255), .bool false] 48 := blkL
  have C17_wd : BlkL wd g17 #[.int .i64 (bits BinOp.and IntKind.i64 key 255), .int .i64 C, .int .i64 (bits BinOp.and IntKind.i64 other 255), .int .i64 0, .bool true] 48 := blkL
  have C19_wd : BlkL wd g19 #[.bool true, .int .i64 id, .slice A19 ps.length c19, .slice B19 xs.length d19, .slice I19 (takeL X ⟨(bits BinOp.and IntKind.i64 key 255), ⟨C, (bits BinOp.and IntKind.i64 other 255)⟩, 0, true⟩).length ci19, .slice L19 ls.length cl19] 40 := blkL
  have C21_wd : BlkL wd g21 #[.bool true, .int .i64 (bits BinOp.and IntKind.i64 other 255), .slice A21 0 c21, .slice B21 0 d21, .slice I21 (takeL Y ⟨(bits BinOp.and IntKind.i64 key 255), ⟨C, id⟩, (bits BinOp.and IntKind.i64 u 255), false⟩).length ci21, .slice L21 ls.length cl21] 40 := blkL
  have r3_wd : SrL k48 wd I19 (takeL X ⟨(bits BinOp.and IntKind.i64 key 255), ⟨C, (bits BinOp.and IntKind.i64 other 255)⟩, 0, true⟩).length ci19 (takeL X ⟨(bits BinOp.and IntKind.i64 key 255), ⟨C, (bits BinOp.and IntKind.i64 other 255)⟩, 0, true⟩) := sr_l inferInstance
  have r4_wd : SrL k48 wd I21 (takeL Y ⟨(bits BinOp.and IntKind.i64 key 255), ⟨C, id⟩, (bits BinOp.and IntKind.i64 u 255), false⟩).length ci21 (takeL Y ⟨(bits BinOp.and IntKind.i64 key 255), ⟨C, id⟩, (bits BinOp.and IntKind.i64 u 255), false⟩) := sr_l inferInstance
  have C23_wd : BlkL wd g23 #[.int .i64 (bits BinOp.and IntKind.i64 key 255), .int .i64 C, .int .i64 id, .int .i64 (bits BinOp.and IntKind.i64 u 255), .bool false] 48 := blkL
  have hv_wd : BelL w wd := belL
  go_upto_region 17 with (first | (go_at_call 18; (with_reducible refine Calls.mono (get_ (l := (takeL X ⟨(bits BinOp.and IntKind.i64 key 255), ⟨C, (bits BinOp.and IntKind.i64 other 255)⟩, 0, true⟩))) ?_); rw [QP.out]; rintro e wp ⟨rfl, hbwp⟩; simp only [Option.getD_some, Option.isSome_some, itemV]) | ((with_reducible refine gate_dst (N := 27) rfl ?_); refine box_tc ?hg (N := 27) ?hd (cs := #[.int .i64 0, .int .i64 0, .int .i64 0, .int .i64 0, .bool false]) (t := 48) ?hr ?_; (case hd => rfl); (case hg => rfl); (case hr => first | (go_simp; done) | (go_simp; rfl)); intro g27 wg27 _ _ _))
  go_upto_region 18 with (first | (go_at_call 18; (with_reducible refine Calls.mono (get_ (l := (takeL Y ⟨(bits BinOp.and IntKind.i64 key 255), ⟨C, id⟩, (bits BinOp.and IntKind.i64 u 255), false⟩))) ?_); rw [QQ.out]; rintro e wq ⟨rfl, hbwq⟩; simp only [Option.getD_some, Option.isSome_some, itemV]) | ((with_reducible refine gate_dst (N := 29) rfl ?_); refine box_tc ?hg (N := 29) ?hd (cs := #[.int .i64 0, .int .i64 0, .int .i64 0, .int .i64 0, .bool false]) (t := 48) ?hr ?_; (case hd => rfl); (case hg => rfl); (case hr => first | (go_simp; done) | (go_simp; rfl)); intro g29 wg29 _ _ _))
  refine wp_letter fun wk hwk => ?_
  have E15 : BlkL wk g15 #[.int .i64 (bits BinOp.and IntKind.i64 key 255), .int .i64 C, .int .i64 id, .int .i64 (bits BinOp.and IntKind.i64 u 255), .bool false] 48 := blkL
  have E23 : BlkL wk g23 #[.int .i64 (bits BinOp.and IntKind.i64 key 255), .int .i64 C, .int .i64 id, .int .i64 (bits BinOp.and IntKind.i64 u 255), .bool false] 48 := blkL
  have E27 : BlkL wk g27 #[.int .i64 (bits BinOp.and IntKind.i64 key 255), .int .i64 C, .int .i64 id, .int .i64 (bits BinOp.and IntKind.i64 u 255), .bool false] 48 := blkL
  have E29 : BlkL wk g29 #[.int .i64 (bits BinOp.and IntKind.i64 key 255), .int .i64 C, .int .i64 id, .int .i64 (bits BinOp.and IntKind.i64 u 255), .bool false] 48 := blkL
  have hu_wk : BelL w wk := belL
  go_wp2_with (first | (go_at_call 11; (with_reducible refine Calls.mono (num _ _) ?_); rintro e w' ⟨rfl, ⟨nd, rfl⟩⟩))
  go_ret
  exact ⟨rfl, belL⟩
set_option maxRecDepth 100000 in
set_option maxHeartbeats 16000000 in
theorem tw_e2 {id key u other : Int} {A B I L : Option Addr} {n c m d ni ci nl cl : Nat} {ps : List S98} {xs : List Int} {is : List S48} {ls : List S77} {w : World} [h1 : Sr k98 w A n c ps] [h2 : Sr kI w B m d xs] [h3 : Sr k48 w I ni ci is] [h4 : Sr k77 w L nl cl ls]
    (l1 : n * 16 ≤ 140737488351232) (l2 : m * 8 ≤ 140737488351232) (l3 : ni * 40 ≤ 140737488351232) (l4 : nl * 24 ≤ 140737488351232) (hn : nodeB ⟨true, ⟨id, ps, xs⟩, is, ls⟩ = true) (hw : writeB id is (bits BinOp.and IntKind.i64 key 255) (bits BinOp.and IntKind.i64 u 255) false = true) (hw2 : writeB (bits BinOp.and IntKind.i64 other 255) is (bits BinOp.and IntKind.i64 key 255) 0 true = true) (hne : id ≠ (bits BinOp.and IntKind.i64 other 255)) (hq : decide ((bits BinOp.and IntKind.i64 other 255) < id) = false) :
    Calls Tryz.prog 4 #[.agg #[.bool true, .int .i64 id, .slice A n c, .slice B m d, .slice I ni ci, .slice L nl cl], .int .i64 key, .int .i64 u, .int .i64 other] w fun e w' => e = .returned (.bool true) ∧ BelL w w' := by
  obtain rfl := h1.len
  obtain rfl := h2.len
  obtain rfl := h3.len
  obtain rfl := h4.len
  have s1 := sr_l h1
  have s2 := sr_l h2
  have s3 := sr_l h3
  have s4 := sr_l h4
  clear h1 h2 h3 h4
  have HK := Aside0.mk (place255 key)
  have HV := Aside0.mk (place255 u)
  have HO := Aside0.mk (place255 other)
  obtain ⟨C, z, x1, y1, p1, q1, b1, e1, n1, hz, m1, m2, ib1, ib2⟩ := two_writes hn (place255 key) (place255 u) (place255 other) hw hw2 hne
  have hz2 : newerR C id C (bits BinOp.and IntKind.i64 other 255) = false ∧ z = ⟨(bits BinOp.and IntKind.i64 key 255), ⟨C, (bits BinOp.and IntKind.i64 other 255)⟩, 0, true⟩ := by
    rcases hz with ⟨h1, h2⟩ | ⟨h1, h2⟩
    · first | exact ⟨h1, h2⟩ | exact absurd (h1.symm.trans (newer_in hq (itemOk_ver ib1) (itemOk_ver ib2))) (by decide)
    · first | exact ⟨h1, h2⟩ | exact absurd (h1.symm.trans (newer_in hq (itemOk_ver ib1) (itemOk_ver ib2))) (by decide)
  obtain ⟨hr, rfl⟩ := hz2
  clear hz hq
  generalize hX : (putL is (writeI id is (bits BinOp.and IntKind.i64 key 255) (bits BinOp.and IntKind.i64 u 255) false)) = X at x1 p1 m1
  generalize hY : (putL is (writeI (bits BinOp.and IntKind.i64 other 255) is (bits BinOp.and IntKind.i64 key 255) 0 true)) = Y at y1 q1 m2
  have EX := Aside0.mk hX
  have EY := Aside0.mk hY
  clear hX hY
  have HM := Aside0.mk (nodeB_bare3 (o := (bits BinOp.and IntKind.i64 other 255)) hn (place255 other))
  have HN := Aside0.mk hn
  have HB := Aside0.mk (old_bounds hn (bits BinOp.and IntKind.i64 key 255))
  clear hn
  have QX := Aside0.mk x1
  have QY := Aside0.mk y1
  have QP := Aside0.mk p1
  have QQ := Aside0.mk q1
  have QB := Aside0.mk b1
  have QE := Aside0.mk e1
  have QN := Aside0.mk n1
  have QR := Aside0.mk hr
  have QM := Aside0.mk m1
  have QM2 := Aside0.mk m2
  have QI := Aside0.mk ib1
  have QJ := Aside0.mk ib2
  clear x1 y1 p1 q1 b1 e1 n1 hr m1 m2 ib1 ib2
  have HW := Aside0.mk hw
  have HW2 := Aside0.mk hw2
  have HI : (id == (bits BinOp.and IntKind.i64 other 255)) = false := beq_false_of_ne hne
  clear hw hw2 hne
  go_enter Tryz.func4, Tryz.ntmps4
  go_upto_region 6 with (first | ((with_reducible refine gate_dst (N := 4) rfl ?_); refine box_tc ?hg (N := 4) ?hd (cs := #[.bool true, .int .i64 id, .slice A ps.length c, .slice B xs.length d, .slice I is.length ci, .slice L ls.length cl]) (t := 40) ?hr ?_; (case hd => rfl); (case hg => rfl); (case hr => first | (go_simp; done) | (go_simp; rfl)); intro g4 wg4 _ _ _) | (go_at_call 9; (with_reducible refine Calls.mono awake_ ?_); rintro e wa ⟨rfl, hba⟩) | (go_at_call 15; (with_reducible refine Calls.mono (copyNode_ (ps := ps) (xs := xs) (is := is) (ls := ls) (by omega) (by omega) (by omega) (by omega)) ?_); rintro e w9 ⟨v, rfl, ⟨A9, c9, B9, d9, I9, ci9, L9, cl9, rfl, hF9, hG9, hH9, hK9⟩, hb9⟩; simp only at hF9 hG9 hH9 hK9 ⊢; have hB4a : BlkL w9 g4 #[.bool true, .int .i64 id, .slice A ps.length c, .slice B xs.length d, .slice I is.length ci, .slice L ls.length cl] 40 := blkL; have hbw9 : BelL w w9 := belL) | ((with_reducible refine gate_dst (N := 10) rfl ?_); refine box_tc ?hg (N := 10) ?hd (cs := #[.bool false, .int .i64 0, .slice none 0 0, .slice none 0 0, .slice none 0 0, .slice none 0 0]) (t := 40) ?hr ?_; (case hd => rfl); (case hg => rfl); (case hr => first | (go_simp; done) | (go_simp; rfl)); intro g10 wg10 _ _ _))
  go_upto_region 7 with (first | (go_at_call 16; (with_reducible refine Calls.mono (put16_ (ps := ps) (xs := xs) (is := is) (ls := ls) HN.out HK.out HV.out HW.out HB.out.1) ?_); rintro e w16 ⟨v16, rfl, ⟨A16, c16, B16, d16, I16, ci16, L16, cl16, rfl, hF16, hG16, hH16, hK16⟩, hb16⟩; simp only at hF16 hG16 hH16 hK16 ⊢; rw [EX.out] at hH16 ⊢; have hB4b : BlkL w16 g4 #[.bool true, .int .i64 id, .slice A ps.length c, .slice B xs.length d, .slice I is.length ci, .slice L ls.length cl] 40 := blkL; have hB10b : BlkL w16 g10 #[.bool true, .int .i64 (bits BinOp.and IntKind.i64 other 255), .slice none 0 0, .slice none 0 0, .slice I9 is.length ci9, .slice L9 ls.length cl9] 40 := blkL; have hbw16 : BelL w w16 := belL) | ((with_reducible refine gate_dst (N := 11) rfl ?_); refine box_tc ?hg (N := 11) ?hd (cs := #[.bool false, .int .i64 0, .slice none 0 0, .slice none 0 0, .slice none 0 0, .slice none 0 0]) (t := 40) ?hr ?_; (case hd => rfl); (case hg => rfl); (case hr => first | (go_simp; done) | (go_simp; rfl)); intro g11 wg11 _ _ _))
  go_upto_region 8 with (first | (go_at_call 17; (with_reducible refine Calls.mono (drop17_ (ps := []) (xs := []) (is := is) (ls := ls) HM.out HK.out HW2.out HB.out.1) ?_); rintro e w17 ⟨v17, rfl, ⟨A17, c17, B17, d17, I17, ci17, L17, cl17, rfl, hF17, hG17, hH17, hK17⟩, hb17⟩; simp only [List.length_nil] at hF17 hG17 hH17 hK17 ⊢; rw [EY.out] at hH17 ⊢; have hB4 : BlkL w17 g4 #[.bool true, .int .i64 id, .slice A ps.length c, .slice B xs.length d, .slice I is.length ci, .slice L ls.length cl] 40 := blkL; have hB10 : BlkL w17 g10 #[.bool true, .int .i64 (bits BinOp.and IntKind.i64 other 255), .slice none 0 0, .slice none 0 0, .slice I9 is.length ci9, .slice L9 ls.length cl9] 40 := blkL; have hbw17 : BelL w w17 := belL) | ((with_reducible refine gate_dst (N := 13) rfl ?_); refine box_tc ?hg (N := 13) ?hd (cs := #[.bool false, .int .i64 0, .slice none 0 0, .slice none 0 0, .slice none 0 0, .slice none 0 0]) (t := 40) ?hr ?_; (case hd => rfl); (case hg => rfl); (case hr => first | (go_simp; done) | (go_simp; rfl)); intro g13 wg13 _ _ _))
  go_upto_region 10 with (first | (go_at_call 11; (with_reducible refine Calls.mono (num _ _) ?_); rintro e w' ⟨rfl, ⟨nd, rfl⟩⟩))
  refine wp_letter fun wa hwa => ?_
  have B11 : BlkL wa g11 #[.bool true, .int .i64 id, .slice A16 ps.length c16, .slice B16 xs.length d16, .slice I16 X.length ci16, .slice L16 ls.length cl16] 40 := blkL
  have B13 : BlkL wa g13 #[.bool true, .int .i64 (bits BinOp.and IntKind.i64 other 255), .slice A17 0 c17, .slice B17 0 d17, .slice I17 Y.length ci17, .slice L17 ls.length cl17] 40 := blkL
  have p1 : SrL k98 wa A16 ps.length c16 ps := sr_l inferInstance
  have p2 : SrL kI wa B16 xs.length d16 xs := sr_l inferInstance
  have p3 : SrL k48 wa I16 X.length ci16 X := sr_l inferInstance
  have p4 : SrL k77 wa L16 ls.length cl16 ls := sr_l inferInstance
  have q1 : SrL k98 wa A17 0 c17 [] := sr_l inferInstance
  have q2 : SrL kI wa B17 0 d17 [] := sr_l inferInstance
  have q3 : SrL k48 wa I17 Y.length ci17 Y := sr_l inferInstance
  have q4 : SrL k77 wa L17 ls.length cl17 ls := sr_l inferInstance
  have hwa2 : BelL w wa := belL
  go_upto_region 11 with (first | (go_at_call 18; (with_reducible refine Calls.mono (get_ (l := X)) ?_); rw [QX.out]; rintro e wx ⟨rfl, hbwx⟩; simp only [Option.getD_some, Option.isSome_some, itemV]) | ((with_reducible refine gate_dst (N := 15) rfl ?_); refine box_tc ?hg (N := 15) ?hd (cs := #[.int .i64 0, .int .i64 0, .int .i64 0, .int .i64 0, .bool false]) (t := 48) ?hr ?_; (case hd => rfl); (case hg => rfl); (case hr => first | (go_simp; done) | (go_simp; rfl)); intro g15 wg15 _ _ _))
  go_upto_region 12 with (first | (go_at_call 18; (with_reducible refine Calls.mono (get_ (l := Y)) ?_); rw [QY.out]; rintro e wy ⟨rfl, hbwy⟩; simp only [Option.getD_some, Option.isSome_some, itemV]) | ((with_reducible refine gate_dst (N := 17) rfl ?_); refine box_tc ?hg (N := 17) ?hd (cs := #[.int .i64 0, .int .i64 0, .int .i64 0, .int .i64 0, .bool false]) (t := 48) ?hr ?_; (case hd => rfl); (case hg => rfl); (case hr => first | (go_simp; done) | (go_simp; rfl)); intro g17 wg17 _ _ _))
  refine wp_letter fun wb hwb => ?_
  have B11_wb : BlkL wb g11 #[.bool true, .int .i64 id, .slice A16 ps.length c16, .slice B16 xs.length d16, .slice I16 X.length ci16, .slice L16 ls.length cl16] 40 := blkL
  have B13_wb : BlkL wb g13 #[.bool true, .int .i64 (bits BinOp.and IntKind.i64 other 255), .slice A17 0 c17, .slice B17 0 d17, .slice I17 Y.length ci17, .slice L17 ls.length cl17] 40 := blkL
  have p1_wb : SrL k98 wb A16 ps.length c16 ps := sr_l inferInstance
  have p2_wb : SrL kI wb B16 xs.length d16 xs := sr_l inferInstance
  have p3_wb : SrL k48 wb I16 X.length ci16 X := sr_l inferInstance
  have p4_wb : SrL k77 wb L16 ls.length cl16 ls := sr_l inferInstance
  have q1_wb : SrL k98 wb A17 0 c17 [] := sr_l inferInstance
  have q2_wb : SrL kI wb B17 0 d17 [] := sr_l inferInstance
  have q3_wb : SrL k48 wb I17 Y.length ci17 Y := sr_l inferInstance
  have q4_wb : SrL k77 wb L17 ls.length cl17 ls := sr_l inferInstance
  have B15 : BlkL wb g15 #[.int .i64 (bits BinOp.and IntKind.i64 key 255), .int .i64 C, .int .i64 id, .int .i64 (bits BinOp.and IntKind.i64 u 255), .bool false] 48 := blkL
  have B17 : BlkL wb g17 #[.int .i64 (bits BinOp.and IntKind.i64 key 255), .int .i64 C, .int .i64 (bits BinOp.and IntKind.i64 other 255), .int .i64 0, .bool true] 48 := blkL
  have hw_wb : BelL w wb := belL
  go_upto_region 13 with (first | (go_at_call 19; (with_reducible refine Calls.mono (takeItem_ (ps := ps) (xs := xs) (is := X) (ls := ls) QM.out QJ.out) ?_); rintro e w19 ⟨v19, rfl, ⟨A19, c19, B19, d19, I19, ci19, L19, cl19, rfl, hF19, hG19, hH19, hK19⟩, hb19⟩; (try simp only [List.length_nil] at hF19 hG19 hH19 hK19 ⊢)) | ((with_reducible refine gate_dst (N := 19) rfl ?_); refine box_tc ?hg (N := 19) ?hd (cs := #[.bool false, .int .i64 0, .slice none 0 0, .slice none 0 0, .slice none 0 0, .slice none 0 0]) (t := 40) ?hr ?_; (case hd => rfl); (case hg => rfl); (case hr => first | (go_simp; done) | (go_simp; rfl)); intro g19 wg19 _ _ _))
  go_upto_region 14 with (first | (go_at_call 19; (with_reducible refine Calls.mono (takeItem_ (ps := []) (xs := []) (is := Y) (ls := ls) QM2.out QI.out) ?_); rintro e w21 ⟨v21, rfl, ⟨A21, c21, B21, d21, I21, ci21, L21, cl21, rfl, hF21, hG21, hH21, hK21⟩, hb21⟩; (try simp only [List.length_nil] at hF21 hG21 hH21 hK21 ⊢)) | ((with_reducible refine gate_dst (N := 21) rfl ?_); refine box_tc ?hg (N := 21) ?hd (cs := #[.bool false, .int .i64 0, .slice none 0 0, .slice none 0 0, .slice none 0 0, .slice none 0 0]) (t := 40) ?hr ?_; (case hd => rfl); (case hg => rfl); (case hr => first | (go_simp; done) | (go_simp; rfl)); intro g21 wg21 _ _ _))
  refine wp_letter fun wc hwc => ?_
  have C15_wc : BlkL wc g15 #[.int .i64 (bits BinOp.and IntKind.i64 key 255), .int .i64 C, .int .i64 id, .int .i64 (bits BinOp.and IntKind.i64 u 255), .bool false] 48 := blkL
  have C17_wc : BlkL wc g17 #[.int .i64 (bits BinOp.and IntKind.i64 key 255), .int .i64 C, .int .i64 (bits BinOp.and IntKind.i64 other 255), .int .i64 0, .bool true] 48 := blkL
  have C19_wc : BlkL wc g19 #[.bool true, .int .i64 id, .slice A19 ps.length c19, .slice B19 xs.length d19, .slice I19 (takeL X ⟨(bits BinOp.and IntKind.i64 key 255), ⟨C, (bits BinOp.and IntKind.i64 other 255)⟩, 0, true⟩).length ci19, .slice L19 ls.length cl19] 40 := blkL
  have C21_wc : BlkL wc g21 #[.bool true, .int .i64 (bits BinOp.and IntKind.i64 other 255), .slice A21 0 c21, .slice B21 0 d21, .slice I21 (takeL Y ⟨(bits BinOp.and IntKind.i64 key 255), ⟨C, id⟩, (bits BinOp.and IntKind.i64 u 255), false⟩).length ci21, .slice L21 ls.length cl21] 40 := blkL
  have r3_wc : SrL k48 wc I19 (takeL X ⟨(bits BinOp.and IntKind.i64 key 255), ⟨C, (bits BinOp.and IntKind.i64 other 255)⟩, 0, true⟩).length ci19 (takeL X ⟨(bits BinOp.and IntKind.i64 key 255), ⟨C, (bits BinOp.and IntKind.i64 other 255)⟩, 0, true⟩) := sr_l inferInstance
  have r4_wc : SrL k48 wc I21 (takeL Y ⟨(bits BinOp.and IntKind.i64 key 255), ⟨C, id⟩, (bits BinOp.and IntKind.i64 u 255), false⟩).length ci21 (takeL Y ⟨(bits BinOp.and IntKind.i64 key 255), ⟨C, id⟩, (bits BinOp.and IntKind.i64 u 255), false⟩) := sr_l inferInstance
  have hv_wc : BelL w wc := belL
  go_upto_region 15 with (first | (go_at_call 20; (with_reducible refine Calls.mono best_ ?_); rw [QB.out, QE.out]; rintro e w20 ⟨rfl, hb20⟩; simp only [itemV]) | ((with_reducible refine gate_dst (N := 23) rfl ?_); refine box_tc ?hg (N := 23) ?hd (cs := #[.int .i64 0, .int .i64 0, .int .i64 0, .int .i64 0, .bool false]) (t := 48) ?hr ?_; (case hd => rfl); (case hg => rfl); (case hr => first | (go_simp; done) | (go_simp; rfl)); intro g23 wg23 _ _ _))
  go_upto_region 16 with (first | (go_at_call 21; (with_reducible refine Calls.mono newer_ ?_); rw [QR.out, QN.out]; rintro e w21 ⟨rfl, hb21⟩))
  refine wp_letter fun wd hwd => ?_
  have C15_wd : BlkL wd g15 #[.int .i64 (bits BinOp.and IntKind.i64 key 255), .int .i64 C, .int .i64 id, .int .i64 (bits BinOp.and IntKind.i64 u 255), .bool false] 48 := blkL
  have C17_wd : BlkL wd g17 #[.int .i64 (bits BinOp.and IntKind.i64 key 255), .int .i64 C, .int .i64 (bits BinOp.and IntKind.i64 other 255), .int .i64 0, .bool true] 48 := blkL
  have C19_wd : BlkL wd g19 #[.bool true, .int .i64 id, .slice A19 ps.length c19, .slice B19 xs.length d19, .slice I19 (takeL X ⟨(bits BinOp.and IntKind.i64 key 255), ⟨C, (bits BinOp.and IntKind.i64 other 255)⟩, 0, true⟩).length ci19, .slice L19 ls.length cl19] 40 := blkL
  have C21_wd : BlkL wd g21 #[.bool true, .int .i64 (bits BinOp.and IntKind.i64 other 255), .slice A21 0 c21, .slice B21 0 d21, .slice I21 (takeL Y ⟨(bits BinOp.and IntKind.i64 key 255), ⟨C, id⟩, (bits BinOp.and IntKind.i64 u 255), false⟩).length ci21, .slice L21 ls.length cl21] 40 := blkL
  have r3_wd : SrL k48 wd I19 (takeL X ⟨(bits BinOp.and IntKind.i64 key 255), ⟨C, (bits BinOp.and IntKind.i64 other 255)⟩, 0, true⟩).length ci19 (takeL X ⟨(bits BinOp.and IntKind.i64 key 255), ⟨C, (bits BinOp.and IntKind.i64 other 255)⟩, 0, true⟩) := sr_l inferInstance
  have r4_wd : SrL k48 wd I21 (takeL Y ⟨(bits BinOp.and IntKind.i64 key 255), ⟨C, id⟩, (bits BinOp.and IntKind.i64 u 255), false⟩).length ci21 (takeL Y ⟨(bits BinOp.and IntKind.i64 key 255), ⟨C, id⟩, (bits BinOp.and IntKind.i64 u 255), false⟩) := sr_l inferInstance
  have C23_wd : BlkL wd g23 #[.int .i64 (bits BinOp.and IntKind.i64 key 255), .int .i64 C, .int .i64 (bits BinOp.and IntKind.i64 other 255), .int .i64 0, .bool true] 48 := blkL
  have hv_wd : BelL w wd := belL
  go_upto_region 17 with (first | (go_at_call 18; (with_reducible refine Calls.mono (get_ (l := (takeL X ⟨(bits BinOp.and IntKind.i64 key 255), ⟨C, (bits BinOp.and IntKind.i64 other 255)⟩, 0, true⟩))) ?_); rw [QP.out]; rintro e wp ⟨rfl, hbwp⟩; simp only [Option.getD_some, Option.isSome_some, itemV]) | ((with_reducible refine gate_dst (N := 27) rfl ?_); refine box_tc ?hg (N := 27) ?hd (cs := #[.int .i64 0, .int .i64 0, .int .i64 0, .int .i64 0, .bool false]) (t := 48) ?hr ?_; (case hd => rfl); (case hg => rfl); (case hr => first | (go_simp; done) | (go_simp; rfl)); intro g27 wg27 _ _ _))
  go_upto_region 18 with (first | (go_at_call 18; (with_reducible refine Calls.mono (get_ (l := (takeL Y ⟨(bits BinOp.and IntKind.i64 key 255), ⟨C, id⟩, (bits BinOp.and IntKind.i64 u 255), false⟩))) ?_); rw [QQ.out]; rintro e wq ⟨rfl, hbwq⟩; simp only [Option.getD_some, Option.isSome_some, itemV]) | ((with_reducible refine gate_dst (N := 29) rfl ?_); refine box_tc ?hg (N := 29) ?hd (cs := #[.int .i64 0, .int .i64 0, .int .i64 0, .int .i64 0, .bool false]) (t := 48) ?hr ?_; (case hd => rfl); (case hg => rfl); (case hr => first | (go_simp; done) | (go_simp; rfl)); intro g29 wg29 _ _ _))
  refine wp_letter fun wk hwk => ?_
  have E15 : BlkL wk g15 #[.int .i64 (bits BinOp.and IntKind.i64 key 255), .int .i64 C, .int .i64 id, .int .i64 (bits BinOp.and IntKind.i64 u 255), .bool false] 48 := blkL
  have E23 : BlkL wk g23 #[.int .i64 (bits BinOp.and IntKind.i64 key 255), .int .i64 C, .int .i64 (bits BinOp.and IntKind.i64 other 255), .int .i64 0, .bool true] 48 := blkL
  have E27 : BlkL wk g27 #[.int .i64 (bits BinOp.and IntKind.i64 key 255), .int .i64 C, .int .i64 (bits BinOp.and IntKind.i64 other 255), .int .i64 0, .bool true] 48 := blkL
  have E29 : BlkL wk g29 #[.int .i64 (bits BinOp.and IntKind.i64 key 255), .int .i64 C, .int .i64 (bits BinOp.and IntKind.i64 other 255), .int .i64 0, .bool true] 48 := blkL
  have hu_wk : BelL w wk := belL
  go_wp2_with (first | (go_at_call 11; (with_reducible refine Calls.mono (num _ _) ?_); rintro e w' ⟨rfl, ⟨nd, rfl⟩⟩))
  go_ret
  exact ⟨rfl, belL⟩
end Go.Proofs.YtljipbmmgcccnaaGreat.T
end
