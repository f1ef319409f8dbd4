/- The tied card of the law FnExactParseUint: at every argument the law answers true, where the listed variables read as the program's text lays them; the arguments read as before. Written by xprint.py and tie.py, programs of this session. -/
import Derived.Test.YtnfkifcbemppjaaDoorRows
import Derived.Test.YtnfkifcbemppjaaDoorPFnExactParseUintx1
import Derived.Test.YtnfkifcbemppjaaDoorPureFnExactParseUint
import Derived.WalkKit
import Derived.ProofKit
import Derived.OpenShut
import Derived.ShutString
import Derived.ChangeOld
import Derived.Below
import Derived.SizedLaws
import Derived.LaidMore
import Derived.Stop.LaidErr
import Derived.Stop.Joined
import Derived.SevenTiedAt
import Derived.MakeChecks
import Derived.Lib.LaidTab
import Derived.Test.YtnfkifcbemppjaaDoorLaid
import Derived.Test.YtnfkifcbemppjaaDoorTie
import Derived.Test.YtnfkifcbemppjaaDoorCards
namespace Go.Proofs.YtnfkifcbemppjaaDoor.fnExactParseUint
open Go.ChangeShapes Go.WideShapes Go.ChangeAt Go.RowKit
open Go.Proofs.YtnfkifcbemppjaaDoorW.PrintWords
open Go.ChangeMaps (open_string shut_string)
set_option linter.unusedVariables false
theorem own : ownKnob Tryd.prog.godebug = none := by kernel_rfl
theorem rowErr (u : TypeId) (h : Tryd.prog.typeName? 3 u = some "*errors.errorString") : u = 51 :=
  have star : "*" ++ "errors.errorString" = "*errors.errorString" := by decide
  typeName_ptr_named (nm := "errors.errorString") (by rw [star]; kernel_rfl) (by kernel_rfl) (by decide) u (by rw [star]; exact h)
/-- What the row's condition gives to the walks. -/
theorem listed {W : World} (hL : laidMetH Tryd.prog Rows.fnExactParseUintRow.laid W) : Laid.Lw true true false W := by
  have hP : laidMet Tryd.prog [("math/bits.deBruijn32tab", Rows.laid_math_bits_deBruijn32tab), ("math/bits.deBruijn64tab", Rows.laid_math_bits_deBruijn64tab), ("internal/strconv.uint64pow10", Lib.tabData .u64 Lib.pow10Tab), ("strconv.ErrRange", Rows.laid_strconv_ErrRange), ("strconv.ErrSyntax", Rows.laid_strconv_ErrSyntax)] W := by rw [← MakeChecks.laidMetH_plain _ _ _ (by kernel_rfl)]; exact hL
  refine ⟨fun w' hb => ?_⟩
  have h0 : Lib.TabIs Tryd.prog w' "internal/strconv.uint64pow10" .u64 Lib.pow10Tab := Joins.tab_stays (show Tryd.prog.globalNamed "internal/strconv.uint64pow10" = some 2 from by kernel_rfl) (Lib.tabIs_of_head (zs := Lib.pow10Tab) (show Tryd.prog.globalNamed "internal/strconv.uint64pow10" = some 2 from by kernel_rfl) (show (Tryd.prog.globals[2]?).map (·.type) = some 61 from by kernel_rfl) Tryd.underlying61 Tryd.underlying40 (by kernel_rfl) (by kernel_rfl) (hP.tail.tail)) hb (Nat.le_refl _)
  obtain ⟨x1, s1, v1, -, -, -⟩ := laid_sentinel (hP.tail.tail.tail.tail) (show Tryd.prog.globalNamed "strconv.ErrSyntax" = some 0 from by kernel_rfl) (show (Tryd.prog.globals[0]?).map (·.type) = some 27 from by kernel_rfl) Tryd.underlying27 rowErr Tryd.underlying51 Tryd.underlying53 rfl rfl Tryd.underlying9 (by kernel_rfl) (by kernel_rfl)
  have c1 : W.cell? ⟨0, 0, none⟩ = some (.iface 51 (.pointer (some x1))) := by have h0 := World.var?_cell (show Tryd.prog.globalNamed "strconv.ErrSyntax" = some 0 from by kernel_rfl) v1 0; simpa using h0
  obtain ⟨x2, s2, v2, -, -, -⟩ := laid_sentinel (hP.tail.tail.tail) (show Tryd.prog.globalNamed "strconv.ErrRange" = some 1 from by kernel_rfl) (show (Tryd.prog.globals[1]?).map (·.type) = some 27 from by kernel_rfl) Tryd.underlying27 rowErr Tryd.underlying51 Tryd.underlying53 rfl rfl Tryd.underlying9 (by kernel_rfl) (by kernel_rfl)
  have c2 : W.cell? ⟨1, 0, none⟩ = some (.iface 51 (.pointer (some x2))) := by have h0 := World.var?_cell (show Tryd.prog.globalNamed "strconv.ErrRange" = some 1 from by kernel_rfl) v2 0; simpa using h0
  exact ⟨fun _ => h0, fun _ => ⟨⟨_, _, pw_cell_below hb c1⟩, ⟨_, _, pw_cell_below hb c2⟩⟩, (fun h => by cases h)⟩
/-- The heap that the door's own run leaves meets the condition. -/
theorem door_met (os : Os) (args : Array Value) : laidMetH Tryd.prog Rows.fnExactParseUintRow.laid ((World.doorLaid Tryd.prog 62 os).forCall (fun _ _ => 0) ⟨#[], args, []⟩).memory :=
  laidMetH_of_parts3 (fuel := 8) (laidMet_of_run' 8 (by kernel_rfl) (by kernel_rfl)) (by kernel_rfl) (by kernel_rfl)
set_option maxRecDepth 100000 in
theorem lifted (os : Os) (started : os.Started) (H : Type) (enc : TypeId × Value → H) :
    ReturnsInHanded {} Tryd.checked os 3 .any (fun w args => (Rows.fnExactParseUintSpec.pre enc Tryd.prog Tryd.f3 Rows.fnExactParseUintRow.domain false w args ∧ laidMetH Tryd.prog Rows.fnExactParseUintRow.laid w) ∧ sizedMet enc Tryd.prog Tryd.f3 (OpenSpec.ofChange Rows.fnExactParseUintSpec) false w args) (Rows.fnExactParseUintSpec.post enc Tryd.prog Tryd.f3 false true false false) := by
  refine returnsInHanded_of_change_and (C := Tryd.checked) (X := fun w _ => laidMetH Tryd.prog Rows.fnExactParseUintRow.laid w) (fun _ _ _ hh h => h.of_heap hh) own started (by kernel_rfl) Tryd.func3
    (ChangeSpec.witness_shaped (enc := enc) (C := Tryd.checked) (os := os) (X := fun w _ => laidMetH Tryd.prog Rows.fnExactParseUintRow.laid w) false (World.doorLaid Tryd.prog 62 os) #[.string ByteArray.empty] 8 rfl (World.shaped_of_RefB (by kernel_rfl) (by kernel_rfl)) (by kernel_rfl) (by kernel_rfl) (by kernel_rfl) (door_met os _)) ?_
  intro W base args ds gs before hval0 hW hcnd hsz0 hL0 _
  have hsz : (DataW.weightsEach Tryd.prog (Tryd.f3.params.toList ++ Rows.fnExactParseUintSpec.plain.varTypes Tryd.prog) (ds ++ gs)).all (· ≤ reachBytes) = true := hsz0
  have hval : ∀ (j : Nat) t v, Tryd.f3.params[j]? = some t → args[j]? = some v → Value.okWide Tryd.prog W .any base t v := hval0
  have hW' := hW
  obtain ⟨p, q, hA0, hV, rfl, hfz, hnd⟩ := hW
  have hA : DataW.TrodAll enc Tryd.prog W 0 (fun _ => true) true Tryd.f3.params.toList args.toList ds p := hA0
  rw [Tryd.params3] at hA hval hsz
  obtain ⟨v0, vs0, d0, ds0, p0, q0, hargs, rfl, rfl, h0, r0⟩ := trodAll_cons hA
  obtain ⟨rfl, rfl, rfl⟩ := trodAll_nil r0
  obtain rfl : args = #[v0] := by cases args; simp_all
  obtain ⟨rfl, rfl⟩ := trodVars_none hV
  obtain ⟨a0, rfl, rfl, rfl, y0⟩ := open_string Tryd.underlying9 (hval 0 9 v0 rfl rfl) h0
  have w0 : a0.size ≤ 140737488351232 := by
    have z := sized_string hsz (j := 0) (t := 9) rfl rfl
    rw [Array.length_toList] at z
    exact z
  clear hA0 hval0 hsz0 hsz
  refine (PFnExactParseUint.laws_FnExactParseUint.walk (hL := listed hL0) Pure.FnExactParseUint a0 W w0).mono fun e W' ⟨he, bel⟩ => ?_
  subst he
  exact ⟨_, rfl, _, _, _, [], _, [], hW', trodAll_mk1 (shut_bool Tryd.underlying4 _), (trodAll_cons_mk (shut_string Tryd.underlying9 y0) trodAll_mk0), rfl, bel.frame _, fun h => by cases h⟩
theorem over : Rows.fnExactParseUintRow.holds Tryd.pinned (OpenSpec.ofChange Rows.fnExactParseUintSpec) :=
  OpenClaim.holds_of_wide 3 Tryd.f3 rfl rfl rfl rfl rfl rfl rfl ⟨rfl, rfl, rfl, rfl, rfl⟩ rfl rfl rfl rfl rfl (by kernel_rfl) Tryd.func3 (by kernel_rfl)
    (of_decide_eq_true (by kernel_rfl)) (by unfold Func.isWrapper; first | (rw [if_pos (by decide +kernel)]; kernel_rfl) | (rw [if_neg (by decide +kernel)]; exact ⟨rfl, rfl⟩))
    (fun os started H enc _ => lifted os started H enc)
theorem card : Rows.FnExactParseUintCardSaid :=
  Claim7.holds_tied_plain_at .later [] [.data, .data, .data, .sentinel, .sentinel] true (true, "119b38633a812f477951fb420906442273b41d3d86fe04ab335c1d2efe6e8a1d") true
    over (fun _ h => by cases h) (by kernel_rfl) (fun _ h => by cases h) fnExactParseUint_row_tie rfl ⟨rfl, rfl⟩ (by kernel_rfl) rfl
    (fun f fn hf hfn => by
      obtain rfl : f = 3 := Option.some.inj ((show Tryd.prog.funcNamed "loop.example/g00986/laws.FnExactParseUint" = some 3 by kernel_rfl).symm.trans hf) |>.symm
      obtain rfl : fn = Tryd.f3 := (Option.some.inj (Tryd.func3.symm.trans hfn)).symm
      exact ⟨by kernel_rfl, fun j t ht => by
        rw [Tryd.params3] at ht
        have hm : t ∈ [9] := by simpa using Array.mem_of_getElem? ht
        have hall : ([9].all fun u => !Tryd.prog.wantsStandIn u) = true := by kernel_rfl
        exact (show Tryd.prog.wantsStandIn t = false by simpa using List.all_eq_true.1 hall t hm)⟩)
    (by kernel_rfl)
end Go.Proofs.YtnfkifcbemppjaaDoor.fnExactParseUint
namespace Go.Proofs.YtnfkifcbemppjaaDoor
/-- The tied card, under a short name, for the claim. -/
theorem fnExactParseUint_holds : Rows.FnExactParseUintCardSaid := fnExactParseUint.card
#print axioms fnExactParseUint_holds
end Go.Proofs.YtnfkifcbemppjaaDoor
