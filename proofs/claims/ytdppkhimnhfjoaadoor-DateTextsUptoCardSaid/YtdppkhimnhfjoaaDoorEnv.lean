/- What the library's own variables hold, and that it stays so. -/
import Derived.Test.YtdppkhimnhfjoaaDoorProg
import Derived.Test.YtdppkhimnhfjoaaDoorShelf
import Derived.WalkKit
import Derived.KernelRfl
import Derived.Below
import Derived.WalkSmall
import Derived.Lib.SmallJoins
namespace Go.Proofs.YtdppkhimnhfjoaaDoor
open Go.RowKit
/-- strconv.Atoi at a text that is neither a number nor one too great: an error, and 0. -/
theorem atoi_bad (s : ByteArray) (hlim : s.size ≤ 281474976710656) (h1 : ∀ v, Lib.atoiAll s.data.toList ≠ .ok v) (h2 : Lib.atoiAll s.data.toList ≠ .range) (tp : TypeId) (p : Value) (w : World) (hvar : w.var? Tryd.prog "strconv.ErrSyntax" = some #[.iface tp p]) :
    Calls Tryd.prog 34 #[.string s] w fun e w' => ∃ N, e = .returned (.tuple #[.int .i64 0, .iface 90 (.pointer (some ⟨N, 0, none⟩))]) ∧ w.heap.size ≤ N ∧ w'.heap[N]? = some (.cells #[.string ⟨#[65, 116, 111, 105]⟩, .string s, .iface tp p] 115 (0, 0)) ∧ Below w.heap.size w w' := by
  rcases hA : Lib.atoiAll s.data.toList with v | _ | _
  · exact absurd hA (h1 v)
  · first
    | exact absurd hA h2
    | exact Any.strconv_Atoi_syntax_var Tryd.laysC172 s hlim hA tp p w hvar
  · first
    | exact absurd hA h2
    | exact Any.strconv_Atoi_syntax_var Tryd.laysC172 s hlim hA tp p w hvar
structure Env (w : World) : Prop where
  sp : Lib.TabIs Tryd.prog w "strings.asciiSpace" .u8 Lib.asciiSpaceTab
  pw : Lib.TabIs Tryd.prog w "internal/strconv.uint64pow10" .u64 Lib.pow10Tab
  es : ∃ tp p, w.var? Tryd.prog "strconv.ErrSyntax" = some #[.iface tp p]
  er : ∃ tp p, w.var? Tryd.prog "strconv.ErrRange" = some #[.iface tp p]
  ml : ∃ m : Int, w.cell? ⟨4, 0, none⟩ = some (.int .i64 m)
theorem var_lt {P : Program} {w : World} {n : String} {g : Nat} {cs : Array Value} (hg : P.globalNamed n = some g) (h : w.var? P n = some cs) : g < w.heap.size := by
  simp only [World.var?, hg, Option.bind_some] at h
  rcases hh : w.heap[g]? with _ | o
  · rw [hh] at h; cases h
  · exact (Array.getElem?_eq_some_iff.1 hh).1
theorem Env.stays {w w' : World} (h : Env w) (hb : Below w.heap.size w w') : Env w' := by
  obtain ⟨sp, pw, ⟨t1, p1, es⟩, ⟨t2, p2, er⟩, m, ml⟩ := h
  have g1 : Tryd.prog.globalNamed "strings.asciiSpace" = some 0 := by kernel_rfl
  have g2 : Tryd.prog.globalNamed "internal/strconv.uint64pow10" = some 5 := by kernel_rfl
  have g3 : Tryd.prog.globalNamed "strconv.ErrSyntax" = some 2 := by kernel_rfl
  have g4 : Tryd.prog.globalNamed "strconv.ErrRange" = some 3 := by kernel_rfl
  refine ⟨var?_below hb g1 (var_lt g1 sp) sp, var?_below hb g2 (var_lt g2 pw) pw, ⟨t1, p1, var?_below hb g3 (var_lt g3 es) es⟩, ⟨t2, p2, var?_below hb g4 (var_lt g4 er) er⟩, m, ?_⟩
  rw [hb.cell (World.block_lt_of_cell? _ _ ml)]; exact ml
theorem Env.stays2 {B : Nat} {w w2 : World} (h : Env w) (hw : w.heap.size ≤ B) (hb : Below B w w2) : Env w2 := h.stays (hb.mono hw)
end Go.Proofs.YtdppkhimnhfjoaaDoor
