/- DateTexts (the second form): its row and its tied card: the walk of 'DateTexts' joined to the given statement. -/
import Derived.Test.YtdppkhimnhfjoaaDoorOpen
import Derived.Test.YtdppkhimnhfjoaaDoorTexts
namespace Go.Proofs.YtdppkhimnhfjoaaDoor.dateTexts
open Go.ChangeShapes Go.WideShapes Go.ChangeAt Go.RowKit
open Go.ChangeMaps (open_string)
set_option maxRecDepth 100000
theorem readable : ∀ t ∈ Tryd.f4.params.toList, Tryd.prog.readableRec t = true ∧ t < Tryd.prog.types.size := by
  rw [Tryd.params4]
  intro t ht
  have hall : ([3, 9].all fun u => Tryd.prog.readableRec u && decide (u < Tryd.prog.types.size)) = true := by kernel_rfl
  simpa using List.all_eq_true.1 hall t ht
/-- THE WALK, FOR EVERY ARGUMENT, IN EVERY WORLD THAT THE ROW SPEAKS OF. -/
theorem contract (H : Type) (enc : TypeId × Value → H) (W : World) (base : Nat) (args : Array Value) (ds gs : List (DataW H)) (before : List MemPlace)
    (hval : ∀ (j : Nat) t v, Tryd.f4.params[j]? = some t → args[j]? = some v → Value.okWide Tryd.prog W .any base t v)
    (hW : DataW.Whole enc Tryd.prog Tryd.f4.params.toList Rows.dateTextsSpec.vars false W args.toList ds gs before)
    (hcond : ∀ k, (Rows.OpenSpec.upto Rows.dateTextsSpec).cond = some k → k H (ds ++ gs) = true)
    (hL : laidMetH Tryd.prog Rows.dateTextsUptoRow.laid W) (hsh : W.ShapedOpen Tryd.prog) :
    Calls Tryd.prog 4 args W fun e W' => ∃ v, e = .returned v ∧ Rows.dateTextsSpec.post enc Tryd.prog Tryd.f4 false true false false W args v W' := by
  have hE : Env W := env_of hL hsh
  have hW' := hW
  obtain ⟨p, q, hA0, hV, _, _, _⟩ := hW
  have hA : DataW.TrodAll enc Tryd.prog W 0 (fun _ => true) true Tryd.f4.params.toList args.toList ds p := hA0
  rw [Tryd.params4] at hA hval
  obtain ⟨v0, v1, d0, d1, p0, p1, rfl, rfl, rfl, h0, h1⟩ := trodAll_two hA
  obtain ⟨rfl, rfl⟩ := trodVars_none hV
  obtain ⟨n, rfl, hn⟩ := open_i64 (hval 0 3 v0 rfl rfl) h0
  obtain ⟨s, rfl, ed, -⟩ := open_string Tryd.underlying9 (hval 1 9 v1 rfl rfl) h1
  have hs : s.size ≤ 1048576 := by
    have hk := hcond _ rfl
    subst ed
    simp only [Rows.uptoSmall, Rows.uptoBulkAll, Rows.uptoBulk, List.cons_append, List.nil_append, decide_eq_true_eq] at hk
    have : s.data.toList.length = s.size := Array.length_toList
    omega
  clear hval h0 h1 hA hA0
  refine (texts_calls n s W hE hs).mono fun e W' ⟨he, hb⟩ => ?_
  exact ⟨_, he, post_true rfl rfl hW' rfl rfl rfl readable hb⟩
theorem reads (os : Os) {H : Type} (enc : TypeId × Value → H) : ∃ x, DataW.whole enc Tryd.prog ((startW os).forCall (fun _ _ => 0) ⟨#[], #[.int .i64 0, .string ⟨#[]⟩], []⟩).memory Tryd.f4.params.toList Rows.dateTextsSpec.vars false #[.int .i64 0, .string ⟨#[]⟩].toList 8 = some x ∧ (∀ k, (Rows.OpenSpec.upto Rows.dateTextsSpec).cond = some k → k H (x.1 ++ x.2.1) = true) :=
  ⟨([.lit (.int .i64 0), .lit (.string [])], [], []), by kernel_rfl, (fun k hk => by cases hk; kernel_rfl)⟩
theorem lifted (os : Os) (started : os.Started) (H : Type) (enc : TypeId × Value → H) (F : Stop.Interp) :
    ReturnsInHanded {} Tryd.checked os 4 .any ((Rows.OpenSpec.upto Rows.dateTextsSpec).preRow enc Tryd.prog Tryd.f4 Rows.dateTextsUptoRow.domain false Rows.dateTextsUptoRow.laid) (((Rows.OpenSpec.upto Rows.dateTextsSpec).at F).post enc Tryd.prog Tryd.f4 false true false false) := by
  obtain ⟨x, hx, hk⟩ := reads os enc
  refine returnsInHanded_of_row (C := Tryd.checked) (s := Rows.OpenSpec.upto Rows.dateTextsSpec) ownKnobs started (by kernel_rfl) Tryd.func4
    ⟨startW os, fun _ _ => 0, ⟨#[], #[.int .i64 0, .string ⟨#[]⟩], []⟩, World.laidAll_os _ _ _, start_shaped os _, rfl, (Input.okWide_of_okWideB (base := 0) (by kernel_rfl)).2,
      OpenSpec.preRow_of_cond 8 hx rfl hk (by kernel_rfl) (start_laid os _), by
        simp only [Assume.holds]
        exact ⟨by simp, by simp, by simp, by simp, by simp⟩⟩ ?_
  intro W base args ds gs before hval hW _ hc _ hL hsh _
  exact contract H enc W base args ds gs before hval hW hc hL hsh
theorem said : Rows.DateTextsUptoSaid :=
  OpenClaim.holds_of_cond 4 Tryd.f4 rfl rfl rfl rfl rfl rfl rfl ⟨rfl, rfl, rfl, rfl, rfl⟩ rfl rfl rfl rfl rfl (by kernel_rfl) Tryd.func4 (by kernel_rfl)
    (of_decide_eq_true (by kernel_rfl)) (by unfold Func.isWrapper; first | (rw [if_pos (by decide +kernel)]; kernel_rfl) | (rw [if_neg (by decide +kernel)]; exact ⟨rfl, rfl⟩))
    (fun os started H enc _ F => by rw [OpenClaim.pre_eq_preRow]; exact lifted os started H enc F)
theorem plain (f : FuncId) (fn : Func) (hf : Tryd.pinned.checked.prog.funcNamed "turnbuckle/turnbucklelaw16.DateTexts" = some f) (hfn : Tryd.pinned.checked.prog.funcs[f]? = some fn) :
    true = Tryd.pinned.checked.prog.looks [] ∧ ∀ (j : Nat) t, fn.params[j]? = some t → Tryd.pinned.checked.prog.wantsStandIn t = false := by
  obtain rfl : f = 4 := Option.some.inj ((show Tryd.prog.funcNamed "turnbuckle/turnbucklelaw16.DateTexts" = some 4 by kernel_rfl).symm.trans hf) |>.symm
  obtain rfl : fn = Tryd.f4 := (Option.some.inj (Tryd.func4.symm.trans hfn)).symm
  refine ⟨by kernel_rfl, fun j t ht => ?_⟩
  rw [Tryd.params4] at ht
  have hm : t ∈ [3, 9] := by simpa using Array.mem_of_getElem? ht
  have hall : ([3, 9].all fun u => !Tryd.prog.wantsStandIn u) = true := by kernel_rfl
  exact (show Tryd.prog.wantsStandIn t = false by simpa using List.all_eq_true.1 hall t hm)
theorem card : Rows.DateTextsUptoCardSaid :=
  Claim7.holds_tied_plain_at .later [] _ _ _ _ said (fun _ h => by cases h) (by kernel_rfl) (fun _ h => by cases h) dateTextsUpto_row_tie rfl ⟨rfl, rfl⟩ (by kernel_rfl) rfl plain (by kernel_rfl)
#print axioms card
end Go.Proofs.YtdppkhimnhfjoaaDoor.dateTexts
