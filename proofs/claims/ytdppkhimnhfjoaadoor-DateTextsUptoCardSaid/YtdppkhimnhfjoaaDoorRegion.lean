/- One word more for regions that draw their order: what is held may be made stronger on the way. -/
import Derived.Test.YtdppkhimnhfjoaaDoorWLast
import Derived.Test.YtdppkhimnhfjoaaDoorWTab
namespace Go.Proofs.YtdppkhimnhfjoaaDoor
open Go.Proofs.YtdppkhimnhfjoaaDoorW.PrintLast
variable {P : Program} {ops : Array Oper} {Q : Exit → Act → World → Prop} {md : Region.Mode} {S S' : World → Prop}
theorem stronger_all (hS : ∀ w, S' w → S w) : ∀ (fuel : Nat) (l : Array Bool) (a : Act) (w : World), S' w → wpAnyLast P md ops Q S' [] fuel l a w → wpAnyLast P md ops Q S [] fuel l a w
  | 0, _, _, _, _, h => h
  | fuel + 1, _, _, _, hw, h => ⟨h.1, fun i hi => wpOp_mono (fun a' w' h' => by
      have hw' : S' w' := h'.1 (by simp) hw
      exact ⟨fun _ _ => hS w' hw', stronger_all hS fuel _ a' w' hw' h'.2⟩) (h.2 i hi)⟩
theorem stronger_ {fuel : Nat} {l : Array Bool} {a : Act} {w : World} (hS : ∀ w, S' w → S w) (hw : S' w) (h : S' w → wpAnyLast P md ops Q S' [] fuel l a w) : wpAnyLast P md ops Q S [] fuel l a w :=
  stronger_all hS fuel l a w hw (h hw)
end Go.Proofs.YtdppkhimnhfjoaaDoor
