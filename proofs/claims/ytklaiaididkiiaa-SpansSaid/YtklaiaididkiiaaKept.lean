/- What gimmallaw0.LendItems makes, with the two marked items behind; what KeptItems answers of it: true. The first in the printer's lines, turned. -/
import Derived.Test.YtklaiaididkiiaaSP
namespace Go.Proofs.Ytklaiaididkiiaa.MS
open Go.RowKit Go.Proofs.YtklaiaididkiiaaW.PrintWords Go.Proofs.YtklaiaididkiiaaW.PrintLast Go.Proofs.YtklaiaididkiiaaW.PrintMore
set_option linter.unusedVariables false
set_option linter.unusedSimpArgs false
attribute [local go_sem high] eqA25

/-- The marked item. -/
def mk : S25 := ⟨0, ⟨0, 0⟩, 77777, false⟩

theorem C_head {w : World} {A : Option Addr} {n m : Nat} {xs ys : List S25} (h : Kd.C k25 w A n (xs ++ ys)) (hm : xs.length = m) : Kd.C k25 w A m xs := by
  obtain ⟨h1, h2, h3⟩ := h
  refine ⟨hm, by rw [List.length_append] at h1; omega, fun hp => ?_⟩
  obtain ⟨ad, e, hc⟩ := h3 (by rw [List.length_append] at h1; omega)
  refine ⟨ad, e, fun j p hj => hc j p ?_⟩
  rw [List.getElem?_append_left (by exact (List.getElem?_eq_some_iff.1 hj).1)]
  exact hj

theorem C_cells {w : World} {g n : Nat} {xs : List S25} (h : Kd.C k25 w (some ⟨g, 0, none⟩) n xs) (j : Nat) (x : S25) (hj : xs[j]? = some x) :
    w.cell? ⟨g, j * 5, none⟩ = some (.int .i64 x.f0) ∧ w.cell? ⟨g, j * 5 + 1, none⟩ = some (.int .i64 x.f1.f0) ∧ w.cell? ⟨g, j * 5 + 2, none⟩ = some (.int .i64 x.f1.f1) ∧ w.cell? ⟨g, j * 5 + 3, none⟩ = some (.int .i64 x.f2) ∧ w.cell? ⟨g, j * 5 + 4, none⟩ = some (.bool x.f3) := by
  obtain ⟨h1, h2, h3⟩ := h
  have hlt : j < xs.length := (List.getElem?_eq_some_iff.1 hj).1
  obtain ⟨ad, e, hc⟩ := h3 (by omega)
  obtain rfl := Option.some.inj e
  obtain ⟨c, hs, hr, hcell⟩ := hc j x hj
  obtain rfl := k25_open hr
  have ad_ : ∀ m, (⟨g, 0, none⟩ : Addr).add m = ⟨g, m, none⟩ := fun m => by unfold Addr.add; by_cases e : m = 0 <;> simp [e]
  have q := fun i u hu => hcell i u hu
  simp only [show k25.sz = 5 from rfl, ad_] at q
  exact ⟨q 0 _ rfl, q 1 _ rfl, q 2 _ rfl, q 3 _ rfl, q 4 _ rfl⟩

set_option maxHeartbeats 2000000 in
theorem kept_yes (g c c1 : Nat) (A1 : Option Addr) (l : List S25) (w : World) (hr : Kd.C k25 w (some ⟨g, 0, none⟩) (l.length + 2) (l ++ [mk, mk])) (hc : l.length + 2 ≤ c)
    (hr1 : Kd.C k25 w A1 l.length l) (hc1 : l.length ≤ c1) (hn : l.length ≤ 3518437208883) :
    Calls Try.prog 25 #[.slice (some ⟨g, 0, none⟩) l.length c, .slice A1 l.length c1] w fun e w' => e = .returned (.bool true) ∧ Drawn0 w w' := by
  have hsame := same_f (l.length + 1) l hn (by omega)
  have HS := Aside0.mk hsame
  have H0 := Aside0.mk (C_head hr rfl)
  have H1 := Aside0.mk hr1
  have HC := Aside0.mk hc1
  have HC0 := Aside0.mk (show l.length ≤ c by omega)
  obtain ⟨p0, p1, p2, p3, p4⟩ := C_cells hr l.length mk (by rw [List.getElem?_append_right (Nat.le_refl _)]; simp)
  obtain ⟨q0, q1, q2, q3, q4⟩ := C_cells hr (l.length + 1) mk (by rw [List.getElem?_append_right (by omega)]; simp)
  simp only [mk] at p0 p1 p2 p3 p4 q0 q1 q2 q3 q4
  clear hsame hr hr1 hc1
  obtain ⟨n, hln⟩ : ∃ n, n = l.length := ⟨_, rfl⟩
  go_enter Try.func25, Try.ntmps25
  go_wp2_with (first | (go_at_call 23; (with_reducible refine (gimmallaw0_SameItems.calls (l.length + 1) _ _ l _ _ l true _ H0.out HC0.out H1.out HC.out HS.out).mono ?_); rintro e w' ⟨rfl, ⟨nd, rfl⟩⟩))
  go_ret
  exact ⟨by first | rfl | (simp; done), by repeat (first | exact Drawn0.refl _ | apply Drawn0.step)⟩

/-! ### lent: the copy with two marked ones behind it -/
def Lent (l0 r : List S25) (w : World) (e : Ending) (w' : World) : Prop :=
  ∃ (A : Option Addr) (c : Nat), e = .returned (.slice A r.length c) ∧ (∃ y : List S25, y = l0 ++ [mk, mk] ∧ Kd.R k25 25 w' w.heap.size (fun _ => True) (.slice A y.length c) y) ∧ Below w.heap.size w w'
set_option maxHeartbeats 8000000 in
set_option maxRecDepth 100000 in
theorem lend_all (A0 : Option Addr) (c0 : Nat) (l0 : List (S25)) (r : List (S25)) (w : World) (hr0 : Kd.C k25 w A0 l0.length l0) (hc0 : l0.length ≤ c0) (h : gimmallaw0_LendItems.f l0 = some r) :
    Calls Try.prog 20 #[.slice A0 l0.length c0] w fun e w' => Lent l0 r w e w' := by
  have hu25 := Try.underlying25
  have HR0 := Aside0.mk hr0
  have HC0 := Aside0.mk hc0
  clear hr0 hc0
  have HB := Aside0.mk (Below.refl w.heap.size w)
  have H : ((gimmallaw0_CopyItems.f l0).bind fun t107 => ((some (([(⟨0, (⟨0, 0⟩ : S23), 77777, false⟩ : S25), (⟨0, (⟨0, 0⟩ : S23), 77777, false⟩ : S25)] : List (S25)) : List (S25))).bind fun y110 => (if t107.length + y110.length < 3518437208883 then ((some (t107 ++ y110 : List (S25))).bind fun y113 => (if 0 ≤ (l0.length : Int) then (if (l0.length : Int) ≤ (y113.length : Int) then (some (y113.take ((l0.length : Int) : Int).toNat)) else (none)) else (none))) else (none)))) = some r := h
  clear h
  replace H := Option.bind_eq_some_iff.mp H
  obtain ⟨t107, A20, H⟩ := H
  replace H : ((some (([(⟨0, (⟨0, 0⟩ : S23), 77777, false⟩ : S25), (⟨0, (⟨0, 0⟩ : S23), 77777, false⟩ : S25)] : List (S25)) : List (S25))).bind fun y110 => (if t107.length + y110.length < 3518437208883 then ((some (t107 ++ y110 : List (S25))).bind fun y113 => (if 0 ≤ (l0.length : Int) then (if (l0.length : Int) ≤ (y113.length : Int) then (some (y113.take ((l0.length : Int) : Int).toNat)) else (none)) else (none))) else (none))) = some r := H
  have A2 := Aside0.mk A20
  clear A20
  obtain ⟨y110, hy110⟩ : ∃ y_ : List (S25), y_ = (([(⟨0, (⟨0, 0⟩ : S23), 77777, false⟩ : S25), (⟨0, (⟨0, 0⟩ : S23), 77777, false⟩ : S25)] : List (S25))) := ⟨_, rfl⟩
  replace H : (if t107.length + y110.length < 3518437208883 then ((some (t107 ++ y110 : List (S25))).bind fun y113 => (if 0 ≤ (l0.length : Int) then (if (l0.length : Int) ≤ (y113.length : Int) then (some (y113.take ((l0.length : Int) : Int).toNat)) else (none)) else (none))) else (none)) = some r := by first | (rw [hy110]; with_reducible exact H) | (have H2_ := (Option.bind_some _ _).symm.trans H; rw [hy110]; with_reducible exact H2_) | (have H2_ := (Option.bind_some _ _).symm.trans H; with_reducible exact H2_) | with_reducible exact H | (rw [hy110]; exact H) | exact H
  have Ny110 := Aside0.mk hy110
  clear hy110
  by_cases c3 : t107.length + y110.length < 3518437208883
  · rw [if_pos c3] at H
    have LMc3 := Aside0.mk c3
    clear c3
    obtain ⟨y113, hy113⟩ : ∃ y_ : List (S25), y_ = (t107 ++ y110) := ⟨_, rfl⟩
    replace H : (if 0 ≤ (l0.length : Int) then (if (l0.length : Int) ≤ (y113.length : Int) then (some (y113.take ((l0.length : Int) : Int).toNat)) else (none)) else (none)) = some r := by first | (rw [hy113]; with_reducible exact H) | (have H2_ := (Option.bind_some _ _).symm.trans H; rw [hy113]; with_reducible exact H2_) | (have H2_ := (Option.bind_some _ _).symm.trans H; with_reducible exact H2_) | with_reducible exact H | (rw [hy113]; exact H) | exact H
    have Ny113 := Aside0.mk hy113
    clear hy113
    by_cases c4 : 0 ≤ (l0.length : Int)
    · rw [if_pos c4] at H
      have c4b0 := eq_true c4
      have c4b1 : decide (0 ≤ (l0.length : Int)) = true := decide_eq_true c4
      clear c4
      by_cases c5 : (l0.length : Int) ≤ (y113.length : Int)
      · rw [if_pos c5] at H
        have c5b0 := eq_true c5
        have c5b1 : decide ((l0.length : Int) ≤ (y113.length : Int)) = true := decide_eq_true c5
        clear c5
        obtain ⟨y116, hy116⟩ : ∃ y_ : List (S25), y_ = (y113.take ((l0.length : Int) : Int).toNat) := ⟨_, rfl⟩
        replace H : (some y116) = some r := by first | (rw [hy116]; with_reducible exact H) | (have H2_ := (Option.bind_some _ _).symm.trans H; rw [hy116]; with_reducible exact H2_) | (have H2_ := (Option.bind_some _ _).symm.trans H; with_reducible exact H2_) | with_reducible exact H | (rw [hy116]; exact H) | exact H
        have Ny116 := Aside0.mk hy116
        clear hy116
        obtain rfl := Option.some.inj H
        go_enter Try.func20, Try.ntmps20
        go_wp2_with (first | ((with_reducible refine gate_callee (f := 33) rfl ?_); refine goesL_ (some 5) rfl rfl Try.func33 (by kernel_rfl) rfl #[.slice A0 l0.length c0] rfl (by (try simp only [List.map_toArray, List.map_cons, List.map_nil]); first | done | rfl | (simp only [List.length_drop, List.length_take]; rfl)) ?_; (with_reducible refine (gimmallaw0_CopyItems.calls _ _ l0 t107 _ ?side1 ?side2 A2.out).mono ?_); (case side1 => repeat (first | exact HR0.out | (with_reducible refine Kd.C_alloc ?_ _) | (with_reducible refine Kd.C_drewN ?_ _) | (with_reducible refine Kd.C_drew ?_))); (case side2 => exact HC0.out); rintro e w6 ⟨v108, rfl, ho0, hb⟩; refine ⟨_, rfl, ?_⟩; have n0_ := Aside0.mk (Kd.R_lower ho0 (below_size (by repeat (first | (with_reducible first | exact HB.out | apply below_alloc | apply pw_below_drewN | apply below_drew1) | exact HB.out)))); have n1_ := Aside0.mk (below_step (by repeat (first | (with_reducible first | exact HB.out | apply below_alloc | apply pw_below_drewN | apply below_drew1) | exact HB.out)) hb); clear HB; have HO109 := n0_; have HB := n1_; clear n0_ n1_; (try clear hb); (try clear hb2); (try clear hk); (try clear hi); (try clear ho0)) | ((with_reducible refine gate_dst (N := 8) rfl ?_); refine Kd.R_lit k25 _ 25 ?hg (N := 8) ?hd (xs := ([(⟨0, (⟨0, 0⟩ : S23), 77777, false⟩ : S25), (⟨0, (⟨0, 0⟩ : S23), 77777, false⟩ : S25)] : List (S25))) (inner := [.int .i64 0, .int .i64 0, .int .i64 0, .int .i64 77777, .bool false, .int .i64 0, .int .i64 0, .int .i64 0, .int .i64 77777, .bool false]) (ok := fun _ => True) (okp := fun _ => True) ?hr ?hp (fun _ hk => hk) trivial (Below.refl _ _) (Nat.le_refl _) (by simp) ?_; (case hd => rfl); (case hg => rfl); (case hr => first | (go_simp; done) | (go_simp; rfl)); (case hp => exact (Reps.c5 (show Kd.M k25 _ _ _ (⟨0, (⟨0, 0⟩ : S23), 77777, false⟩ : S25) [.int .i64 0, .int .i64 0, .int .i64 0, .int .i64 77777, .bool false] from (k25_mkM _ _ _ (⟨0, (⟨0, 0⟩ : S23), 77777, false⟩ : S25) )) (Reps.c5 (show Kd.M k25 _ _ _ (⟨0, (⟨0, 0⟩ : S23), 77777, false⟩ : S25) [.int .i64 0, .int .i64 0, .int .i64 0, .int .i64 77777, .bool false] from (k25_mkM _ _ _ (⟨0, (⟨0, 0⟩ : S23), 77777, false⟩ : S25) )) (Reps.none _ _)))); intro v111 w7 ho8 hb hg_ hnew_; clear hg_ hnew_; (first | rw [← Ny110.out] at ho8 | (simp only [Int.reduceToNat] at ho8; rw [← Ny110.out] at ho8)); have n0_ := Aside0.mk (Kd.R_elder' (by (with_reducible repeat (first | apply Kd.R_alloc | apply Kd.R_drewN | apply Kd.R_drew)); exact HO109.out) (Kd.R_base ho8) hb); have n1_ := Aside0.mk (Kd.R_lower (Kd.R_new' ho8 (Kd.R_lt (by (with_reducible repeat (first | apply Kd.R_alloc | apply Kd.R_drewN | apply Kd.R_drew)); exact HO109.out))) (below_size (by repeat (first | (with_reducible first | exact HB.out | apply below_alloc | apply pw_below_drewN | apply below_drew1) | exact HB.out)))); have n2_ := Aside0.mk (below_step (by repeat (first | (with_reducible first | exact HB.out | apply below_alloc | apply pw_below_drewN | apply below_drew1) | exact HB.out)) hb); clear HO109; clear HB; have HO109 := n0_; have HO112 := n1_; have HB := n2_; clear n0_ n1_ n2_; clear hb ho8; obtain ⟨Ao10, co10, eo10⟩ := Kd.R_slice HO112.out; subst eo10) | ((with_reducible refine gate_builtin (b := .append) (xs := #[.tmp 5, .tmp 8]) rfl ?_); at_builtin; refine Kd.R_append_rows k25 (w0 := w) w.heap.size rfl (.tmp 5) (.tmp 8) 36 25 (.agg #[(.int .i64 0), (.int .i64 0), (.int .i64 0), (.int .i64 0), (.bool false)]) 40 rfl Try.underlying36 info25 rfl (by decide) (by omega) v108 t107 y110 _ _ _ (fun k_ => some k_ ≠ (.slice Ao10 y110.length co10 : Value).ownBlock) (fun _ => False) rfl rfl ?aO ?aR (fun _ _ h => h) (fun _ h => h.elim) ?aF ?aB ?aS ?aL ?_; (case aR => repeat (first | exact (Kd.R_reads' HO112.out).2.2 | (with_reducible refine Kd.C_alloc ?_ _) | (with_reducible refine Kd.C_drewN ?_ _) | (with_reducible refine Kd.C_drew ?_))); (case aB => exact (by repeat (first | (with_reducible first | exact HB.out | apply below_alloc | apply pw_below_drewN | apply below_drew1) | exact HB.out))); (case aF => exact (fun k_ hk => Kd.fresh' (Kd.R_lt (by (with_reducible repeat (first | apply Kd.R_alloc | apply Kd.R_drewN | apply Kd.R_drew)); exact HO112.out)) k_ hk)); (case aO => exact (by (with_reducible repeat (first | apply Kd.R_alloc | apply Kd.R_drewN | apply Kd.R_drew)); exact Kd.R_mono HO109.out (fun _ hk => hk.2))); (case aS => exact (below_size (by repeat (first | (with_reducible first | exact HB.out | apply below_alloc | apply pw_below_drewN | apply below_drew1) | exact HB.out)))); (case aL => have := LMc3.out; omega); intro v114 w9 ho hb hg hat; rw [← Ny113.out] at ho; have n0_ := Aside0.mk (Kd.R_after (ok := (fun _ => True)) (by (with_reducible repeat (first | apply Kd.R_alloc | apply Kd.R_drewN | apply Kd.R_drew)); exact HO112.out) hg hat); have n1_ := Aside0.mk (hb); have n2_ := Aside0.mk (ho); clear HO112; clear HB; clear HO109; have HO112 := n0_; have HB := n1_; have HO115 := n2_; clear n0_ n1_ n2_; clear ho hb hg hat; obtain ⟨Ao11, co11, eo11⟩ := Kd.R_slice HO115.out; subst eo11; have q12 : ((l0.length : Int) : Int) ≤ ((y113.length : Int) : Int) := of_decide_eq_true (by first | (with_reducible assumption) | assumption); obtain ⟨i012, hi012, _, hsz12, _⟩ := info_parts info25; have hcut12 := cut_to (P := Try.prog) 36 25 .i64 Try.underlying36 hi012 Ao11 y113.length co11 (l0.length : Int) (of_decide_eq_true (by first | (with_reducible assumption) | assumption)) q12 (Kd.R_reads' HO115.out).2.1; have hr12 := Kd.R_take (m := ((l0.length : Int) : Int).toNat) HO115.out (by omega); have hy12 : y116.length = ((l0.length : Int) : Int).toNat := (by rw [Ny116.out, List.length_take]; omega); rw [← Ny116.out] at hr12; rw [← hy12] at hr12 hcut12; have HOF := HO115; clear hy12 hi012 hsz12 HO115; have HO118 := Aside0.mk hr12; clear hr12; replace q12 := eq_true q12))
        go_ret
        have hcopy : t107 = l0 := by
          have := A2.out
          unfold gimmallaw0_CopyItems.f at this
          simp only [Option.bind_some, List.nil_append, List.length_nil] at this
          split at this
          · exact (Option.some.inj this).symm
          · cases this
        refine ⟨Ao11, co11, rfl, ⟨y113, ?_, ?_⟩, ?_⟩
        · rw [Ny113.out, Ny110.out, hcopy]; rfl
        · (with_reducible repeat (first | apply Kd.R_alloc | apply Kd.R_drewN | apply Kd.R_drew)); exact Kd.R_mono HOF.out (fun _ hk => trivial)
        · repeat (first | (with_reducible first | exact HB.out | apply below_alloc | apply pw_below_drewN | apply below_drew1) | exact HB.out)
      · rw [if_neg c5] at H
        exact absurd H (by simp)
    · rw [if_neg c4] at H
      exact absurd H (by simp)
  · rw [if_neg c3] at H
    exact absurd H (by simp)

theorem R_head {w : World} {base : Nat} {A : Option Addr} {n c : Nat} {xs : List S25} (h : Kd.R k25 25 w base (fun _ => True) (.slice A n c) xs) (hx : 0 < xs.length) :
    ∃ g, A = some ⟨g, 0, none⟩ ∧ base ≤ g := by
  have hlen := (Kd.R_reads' h).1
  obtain ⟨-, inner, ho, -⟩ := h
  rcases ho.2 with ⟨e, hz⟩ | ⟨g, cap, cur, e, hb, -⟩
  · omega
  · injection e with e1 e2 e3
    exact ⟨g, e1, hb⟩
end Go.Proofs.Ytklaiaididkiiaa.MS
