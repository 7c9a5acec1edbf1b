/- Package gimmallaw6's awake answers true, however many rounds are given. -/
import Derived.Test.YtklaiaididkiiaaMSx7
namespace Go.Proofs.Ytklaiaididkiiaa.MS
open Go.RowKit Go.Proofs.YtklaiaididkiiaaW.PrintWords Go.Proofs.YtklaiaididkiiaaW.PrintLast Go.Proofs.YtklaiaididkiiaaW.PrintMore

theorem gimmallaw6_awake.at20 : gimmallaw6_awake.f 20 = some true := by decide +kernel
theorem gimmallaw6_awake.up (k : Nat) (r : Bool) (h : gimmallaw6_awake.f k = some r) : ∀ m, gimmallaw6_awake.f (k + m) = some r
  | 0 => h
  | m + 1 => gimmallaw6_awake.mono (k + m) r (gimmallaw6_awake.up k r h m)
theorem gimmallaw6_awake.is_true (k : Nat) : gimmallaw6_awake.f (k + 20) = some true := by
  have := gimmallaw6_awake.up 20 true gimmallaw6_awake.at20 k
  rwa [Nat.add_comm] at this
theorem gimmallaw6_awake.calls (k : Nat) (r : Bool) (w : World) (h : gimmallaw6_awake.f k = some r) :
    Calls Try.prog 26 #[] w fun e w' => e = .returned (.bool r) ∧ Below w.heap.size w w' := by
  have h2 := gimmallaw6_awake.up k r h 20
  have hr : r = true := Option.some.inj (h2.symm.trans (gimmallaw6_awake.is_true k))
  subst hr
  exact gimmallaw6_awake.true_ k w h
end Go.Proofs.Ytklaiaididkiiaa.MS
