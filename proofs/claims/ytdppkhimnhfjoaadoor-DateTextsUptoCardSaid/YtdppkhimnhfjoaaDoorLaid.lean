/- What a row of this seat gives a walk (the library's variables, 'Env'), a world for its witness, and what is left to say behind a walk that only adds to memory. -/
import Derived.Test.YtdppkhimnhfjoaaDoorCards
import Derived.Test.YtdppkhimnhfjoaaDoorTie
import Derived.Test.YtdppkhimnhfjoaaDoorEnv
import Derived.WalkKit
import Derived.ProofKit
import Derived.OpenShut
import Derived.Carry
import Derived.Lay
import Derived.LaidMore
import Derived.Stop.LaidErr
import Derived.Stop.Joined
import Derived.Stop.ErrReads
import Derived.Deep.DeepHandedRow
import Derived.Lib.LaidTab
import Derived.Shelf.Vars
namespace Go.Proofs.YtdppkhimnhfjoaaDoor
open Go.ChangeShapes Go.WideShapes Go.ChangeAt Go.RowKit
theorem ownKnobs : ownKnob Tryd.prog.godebug = none := by kernel_rfl
theorem laidOut : laidOutB Tryd.prog = true := by kernel_rfl
/-- The rows' list. -/
noncomputable def laidL : List (String × DataW Unit) := Rows.dateBackRow.laid
theorem star : "*" ++ "errors.errorString" = "*errors.errorString" := by decide
theorem errRow (u : TypeId) (h : Tryd.prog.typeName? 3 u = some "*errors.errorString") : u = 135 :=
  typeName_ptr_named (nm := "errors.errorString") (by rw [star]; kernel_rfl) (by kernel_rfl) (by decide) u (by rw [star]; exact h)
set_option maxRecDepth 100000 in
/-- WHAT THE LIST GIVES. -/
theorem env_of {W : World} (h : laidMetH Tryd.prog laidL W) (hs : W.ShapedOpen Tryd.prog) : Env W := by
  rw [MakeChecks.laidMetH_plain _ _ _ (by kernel_rfl)] at h
  have g1 : Tryd.prog.globalNamed "strings.asciiSpace" = some 0 := by kernel_rfl
  have g2 : Tryd.prog.globalNamed "internal/strconv.uint64pow10" = some 5 := by kernel_rfl
  have g3 : Tryd.prog.globalNamed "strconv.ErrSyntax" = some 2 := by kernel_rfl
  have g4 : Tryd.prog.globalNamed "strconv.ErrRange" = some 3 := by kernel_rfl
  have t1 : (Tryd.prog.globals[0]?).map (·.type) = some 82 := by kernel_rfl
  have t2 : (Tryd.prog.globals[5]?).map (·.type) = some 139 := by kernel_rfl
  have t3 : (Tryd.prog.globals[2]?).map (·.type) = some 60 := by kernel_rfl
  have t4 : (Tryd.prog.globals[3]?).map (·.type) = some 60 := by kernel_rfl
  have h2 := h.tail.tail
  have h4 := h2.tail.tail
  have h3 := h4.tail
  have h1 := h3.tail.tail
  obtain ⟨a3, s3, v3, _, _, _⟩ := laid_sentinel h3 g3 t3 Tryd.underlying60 errRow Tryd.underlying135 Tryd.underlying137 rfl rfl Tryd.underlying9 (by kernel_rfl) (by kernel_rfl)
  obtain ⟨a4, s4, v4, _, _, _⟩ := laid_sentinel h4 g4 t4 Tryd.underlying60 errRow Tryd.underlying135 Tryd.underlying137 rfl rfl Tryd.underlying9 (by kernel_rfl) (by kernel_rfl)
  exact ⟨Lib.tabIs_of_head g1 t1 Tryd.underlying82 Tryd.underlying5 (by kernel_rfl) (by kernel_rfl) h1,
    Lib.tabIs_of_head g2 t2 Tryd.underlying139 Tryd.underlying100 (by kernel_rfl) (by kernel_rfl) h2, ⟨_, _, v3⟩, ⟨_, _, v4⟩,
    cell_of_shapedOpen_int (zero := #[.int .i64 0]) (t := 3) hs (of_decide_eq_true (by kernel_rfl)) (by kernel_rfl) rfl (by kernel_rfl) (by kernel_rfl) Tryd.underlying3⟩
/-- A WORLD FOR THE WITNESS. -/
noncomputable def startW (os : Os) : World := World.laidAll Tryd.prog os laidL
theorem start_shaped (os : Os) (args : Array Value) : ((startW os).forCall (fun _ _ => 0) ⟨#[], args, []⟩).Shaped Tryd.prog :=
  World.shaped_of_ZipB (by kernel_rfl) (by kernel_rfl)
theorem start_laid (os : Os) (args : Array Value) : laidMetH Tryd.prog laidL ((startW os).forCall (fun _ _ => 0) ⟨#[], args, []⟩).memory := by
  rw [MakeChecks.laidMetH_plain _ _ _ (by kernel_rfl)]
  exact laidMet_laidAll _ (by kernel_rfl) (by kernel_rfl)
/-- ONE READING BACK: arguments, under a world that only grew. -/
theorem back_all {H : Type} {enc : TypeId × Value → H} {P : Program} (hl : laidOutB P = true) {W W' : World} (hb : Below W.heap.size W W') :
    ∀ {ts : List TypeId} {vs : List Value} {ds : List (DataW H)} {ps : List MemPlace}, (∀ t ∈ ts, P.readableRec t = true ∧ t < P.types.size) → (∀ x ∈ ps, x.block < W.heap.size) →
      DataW.TrodAll enc P W 0 (fun _ => true) true ts vs ds ps → DataW.TrodAll enc P W' 0 (fun b => decide (b < W.heap.size)) true ts vs ds ps
  | [], [], [], _, _, _, h => h
  | t :: ts, v :: vs, d :: ds, ps, hr, hp, ⟨p, q, h1, h2, e⟩ => by
    subst e
    exact ⟨p, q, Below.trod hl (hr t (by simp)).1 (hr t (by simp)).2 h1 hb (fun x hx => hp x (by simp [hx])), back_all hl hb (fun u hu => hr u (by simp [hu])) (fun x hx => hp x (by simp [hx])) h2, rfl⟩
/-- WHAT IS LEFT TO SAY BEHIND A WALK: 'true', and nothing old has turned. -/
theorem post_true {H : Type} {enc : TypeId × Value → H} {f : Func} {s : ChangeSpec} {W W' : World} {args : Array Value} {ds gs : List (DataW H)} {before : List MemPlace}
    (hvars : s.vars = []) (hres : f.resultTypes = #[4]) (hW : DataW.Whole enc Tryd.prog f.params.toList s.vars false W args.toList ds gs before)
    (hfn : (s.fn H (ds ++ gs)).results = [.lit (.bool true)]) (hargs : (s.fn H (ds ++ gs)).args = ds) (hv : (s.fn H (ds ++ gs)).vars = [])
    (hr : ∀ t ∈ f.params.toList, Tryd.prog.readableRec t = true ∧ t < Tryd.prog.types.size) (hb : Below W.heap.size W W') :
    s.post enc Tryd.prog f false true false false W args (.bool true) W' := by
  have hW' := hW
  obtain ⟨p, q, hA, hV, e, _, _⟩ := hW
  rw [hvars] at hV
  obtain ⟨rfl, rfl⟩ := trodVars_none hV
  simp only [List.append_nil] at e
  subst e
  refine ⟨ds, [], before, [], before, [], hW', ?_, ?_, ?_, hb.frame _, fun h => by cases h⟩
  · rw [hres, hfn]; exact trodAll_mk1 (shut_bool Tryd.underlying4 _)
  · rw [hargs]; exact back_all laidOut hb hr (fun x hx => by simpa using hW'.lt x hx) hA
  · rw [hv, hvars]; rfl
end Go.Proofs.YtdppkhimnhfjoaaDoor
