/- An argument that is a date by value: six integers. -/
import Derived.Test.YtdppkhimnhfjoaaDoorLaid
import Derived.Lib.SmallJoins
namespace Go.Proofs.YtdppkhimnhfjoaaDoor
open Go.ChangeShapes Go.WideShapes Go.ChangeAt Go.RowKit
set_option maxRecDepth 100000
def I64 (n : Int) : Prop := -9223372036854775808 ≤ n ∧ n ≤ 9223372036854775807
theorem i64_wf {n : Int} (h : (Lit.int .i64 n).wf = true) : I64 n := by
  simpa [Lit.wf, IntKind.min, IntKind.max, IntKind.signed, IntKind.bits, I64] using h
theorem date_fields {H : Type} {enc : TypeId × Value → H} {W : World} {r : Reach} {b0 base : Nat} {sp : Nat → Bool} {held : Bool} {t : TypeId} {v : Value} {d : DataW H} {p : List MemPlace} {F : Array Field}
    (ht : Tryd.prog.underlying t = some (.struct F)) (hF : F.toList.map (fun f => (f.type, f.offset)) = [(3, 0), (3, 1), (3, 2), (3, 3), (3, 4), (3, 5)]) (hC : Tryd.prog.cellsOf t = 6)
    (hv : Value.okWide Tryd.prog W r b0 t v) (h : DataW.Trod enc Tryd.prog W base sp held t v d p) :
    ∃ y m dd hh i s : Int, v = .agg #[.int .i64 y, .int .i64 m, .int .i64 dd, .int .i64 hh, .int .i64 i, .int .i64 s] ∧ I64 y ∧ I64 m ∧ I64 dd ∧ I64 hh ∧ I64 i ∧ I64 s := by
  obtain ⟨cs, rfl, hsz⟩ := okWide_struct ht hv
  obtain ⟨fuel, hf⟩ := h
  obtain ⟨xs, n, _, _, _, hlen, hg⟩ := DataW.trod_struct ht hf
  have hfs : F.size = 6 := by simpa using congrArg List.length hF
  have c3 : Tryd.prog.cellsOf 3 = 1 := by kernel_rfl
  obtain ⟨l⟩ := cs
  have hl : l.length = 6 := by simpa [hC] using hsz
  have one : ∀ (k : Nat) (c : Value), k < 6 → l[k]? = some c → ∃ z : Int, c = .int .i64 z ∧ I64 z := by
    intro k c hk hc
    obtain ⟨f, hfk⟩ : ∃ f, F[k]? = some f := ⟨F[k]'(by omega), Array.getElem?_eq_getElem (by omega)⟩
    have hx : xs[k]? = some (xs[k]'(by omega)) := List.getElem?_eq_getElem (by omega)
    have h1 := (hg k f hfk).trans hx
    have h2 : ((F.toList.map fun f => (f.type, f.offset)))[k]? = some (f.type, f.offset) := by
      rw [List.getElem?_map, Array.getElem?_toList, hfk]; rfl
    rw [hF] at h2
    have h3 : f.type = 3 ∧ f.offset = k := by
      clear h1 hx hc hfk
      match k, hk, h2 with
      | 0, _, h2 => simpa [eq_comm] using h2
      | 1, _, h2 => simpa [eq_comm] using h2
      | 2, _, h2 => simpa [eq_comm] using h2
      | 3, _, h2 => simpa [eq_comm] using h2
      | 4, _, h2 => simpa [eq_comm] using h2
      | 5, _, h2 => simpa [eq_comm] using h2
    rw [h3.1, h3.2, c3] at h1
    have h4 : (((Value.agg ⟨l⟩).cells.toList.drop k).take 1) = [c] := by
      show ((l.drop k).take 1) = [c]
      have hlk : k < l.length := by omega
      rw [List.getElem?_eq_getElem hlk] at hc
      rw [List.drop_eq_getElem_cons hlk, Option.some.inj hc]
      rfl
    rw [h4] at h1
    obtain ⟨z, hz, _, hw⟩ := DataW.trod_int Tryd.underlying3 h1
    exact ⟨z, by simpa using hz, i64_wf hw⟩
  match l, hl with
  | [c0, c1, c2, c3', c4, c5], _ =>
    obtain ⟨z0, rfl, w0⟩ := one 0 c0 (by omega) rfl
    obtain ⟨z1, rfl, w1⟩ := one 1 c1 (by omega) rfl
    obtain ⟨z2, rfl, w2⟩ := one 2 c2 (by omega) rfl
    obtain ⟨z3, rfl, w3⟩ := one 3 c3' (by omega) rfl
    obtain ⟨z4, rfl, w4⟩ := one 4 c4 (by omega) rfl
    obtain ⟨z5, rfl, w5⟩ := one 5 c5 (by omega) rfl
    exact ⟨z0, z1, z2, z3, z4, z5, rfl, w0, w1, w2, w3, w4, w5⟩
theorem cells_date : Tryd.prog.cellsOf 23 = 6 := by kernel_rfl
theorem open_rdate {H : Type} {enc : TypeId × Value → H} {W : World} {r : Reach} {b0 base : Nat} {sp : Nat → Bool} {held : Bool} {v : Value} {d : DataW H} {p : List MemPlace}
    (hv : Value.okWide Tryd.prog W r b0 23 v) (h : DataW.Trod enc Tryd.prog W base sp held 23 v d p) :
    ∃ y m dd hh i s : Int, v = .agg #[.int .i64 y, .int .i64 m, .int .i64 dd, .int .i64 hh, .int .i64 i, .int .i64 s] ∧ I64 y ∧ I64 m ∧ I64 dd ∧ I64 hh ∧ I64 i ∧ I64 s :=
  date_fields Tryd.underlying23 (by decide) cells_date hv h
theorem open_i64 {H : Type} {enc : TypeId × Value → H} {W : World} {r : Reach} {b0 base : Nat} {sp : Nat → Bool} {held : Bool} {v : Value} {d : DataW H} {p : List MemPlace}
    (hv : Value.okWide Tryd.prog W r b0 3 v) (h : DataW.Trod enc Tryd.prog W base sp held 3 v d p) : ∃ n : Int, v = .int .i64 n ∧ I64 n := by
  obtain ⟨x, rfl, _, _, wx⟩ := open_int Tryd.underlying3 hv h
  exact ⟨x, rfl, i64_wf wx⟩
end Go.Proofs.YtdppkhimnhfjoaaDoor
