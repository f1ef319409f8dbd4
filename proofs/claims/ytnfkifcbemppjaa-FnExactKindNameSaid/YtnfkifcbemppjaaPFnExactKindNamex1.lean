-- Written by xprint.py, a program of this session, over the kit's print (not a file of print.sh). Lean checks it.
import Derived.Test.YtnfkifcbemppjaaPFnExactKindNamex0
namespace Go.Proofs.Ytnfkifcbemppjaa.PFnExactKindName
open Go.RowKit Go.Proofs.YtnfkifcbemppjaaW.PrintWords Go.Proofs.YtnfkifcbemppjaaW.PrintLast Go.Proofs.YtnfkifcbemppjaaW.PrintMore
attribute [local go_sem] max2_int min2_int max_two min_two max_three min_three max_four min_four   -- for this text's walks alone
set_option linter.unusedVariables false
set_option linter.unusedSimpArgs false

/-! ### spec_l01In: function 34 -/
def spec_l01In.f (a0 : Int) (a1 : Int) (a2 : Int) : Option (Bool) := if a0 ≥ a1 then (some (decide (a0 ≤ a2))) else (some false)
set_option maxHeartbeats 8000000 in
set_option maxRecDepth 100000 in
theorem spec_l01In.calls (a0 : Int) (a1 : Int) (a2 : Int) (r : Bool) (w : World) (h : spec_l01In.f a0 a1 a2 = some r) :
    Calls Try.prog 34 #[.int .i64 a0, .int .i64 a1, .int .i64 a2] w fun e w' => e = .returned (.bool r) ∧ Drawn0 w w' := by
  have H : (if a0 ≥ a1 then (some (decide (a0 ≤ a2))) else (some false)) = some r := h
  clear h
  by_cases c4 : a0 ≥ a1
  · rw [if_pos c4] at H
    have c4b0 : decide (a1 ≤ a0) = true := decide_eq_true c4
    clear c4
    obtain rfl := Option.some.inj H
    go_enter Try.func34, Try.ntmps34
    go_wp2
    go_ret
    exact ⟨by first | rfl | (simp; done) | (simp [*]; done), by repeat (first | exact Drawn0.refl _ | apply Drawn0.step)⟩
  · rw [if_neg c4] at H
    have c4b0 : decide (a1 ≤ a0) = false := decide_eq_false c4
    clear c4
    obtain rfl := Option.some.inj H
    go_enter Try.func34, Try.ntmps34
    go_wp2
    go_ret
    exact ⟨by first | rfl | (simp; done) | (simp [*]; done), by repeat (first | exact Drawn0.refl _ | apply Drawn0.step)⟩

/-! ### spec_KindName: function 18 -/
def spec_KindName.f (a0 : Int) : Option (ByteArray) := (spec_l01In.f a0 1 6).bind fun t101 => (if t101 = true then ((some (([(⟨#[119, 114, 105, 116, 101]⟩ : ByteArray), (⟨#[109, 101, 115, 115, 97, 103, 101]⟩ : ByteArray), (⟨#[114, 101, 97, 100]⟩ : ByteArray), (⟨#[99, 111, 110, 102, 105, 103, 114, 101, 97, 100]⟩ : ByteArray), (⟨#[99, 111, 110, 102, 105, 103, 119, 114, 105, 116, 101]⟩ : ByteArray), (⟨#[99, 111, 109, 112, 108, 101, 116, 105, 111, 110]⟩ : ByteArray)] : List ByteArray) : List ByteArray)).bind fun y102 => (if 0 ≤ (wrap64 (a0 - 1)) then (if (wrap64 (a0 - 1)) < (y102.length : Int) then (some (rdOf ByteArray.empty y102 (wrap64 (a0 - 1)))) else (none)) else (none))) else (some (⟨#[]⟩ : ByteArray)))
set_option maxHeartbeats 8000000 in
set_option maxRecDepth 100000 in
theorem spec_KindName.calls (a0 : Int) (r : ByteArray) (w : World) (h : spec_KindName.f a0 = some r) :
    Calls Try.prog 18 #[.int .i64 a0] w fun e w' => e = .returned (.string r) ∧ Below w.heap.size w w' := by
  have HB := Aside0.mk (Below.refl w.heap.size w)
  have H : ((spec_l01In.f a0 1 6).bind fun t101 => (if t101 = true then ((some (([(⟨#[119, 114, 105, 116, 101]⟩ : ByteArray), (⟨#[109, 101, 115, 115, 97, 103, 101]⟩ : ByteArray), (⟨#[114, 101, 97, 100]⟩ : ByteArray), (⟨#[99, 111, 110, 102, 105, 103, 114, 101, 97, 100]⟩ : ByteArray), (⟨#[99, 111, 110, 102, 105, 103, 119, 114, 105, 116, 101]⟩ : ByteArray), (⟨#[99, 111, 109, 112, 108, 101, 116, 105, 111, 110]⟩ : ByteArray)] : List ByteArray) : List ByteArray)).bind fun y102 => (if 0 ≤ (wrap64 (a0 - 1)) then (if (wrap64 (a0 - 1)) < (y102.length : Int) then (some (rdOf ByteArray.empty y102 (wrap64 (a0 - 1)))) else (none)) else (none))) else (some (⟨#[]⟩ : ByteArray)))) = some r := h
  clear h
  replace H := Option.bind_eq_some_iff.mp H
  obtain ⟨t101, A20, H⟩ := H
  replace H : (if t101 = true then ((some (([(⟨#[119, 114, 105, 116, 101]⟩ : ByteArray), (⟨#[109, 101, 115, 115, 97, 103, 101]⟩ : ByteArray), (⟨#[114, 101, 97, 100]⟩ : ByteArray), (⟨#[99, 111, 110, 102, 105, 103, 114, 101, 97, 100]⟩ : ByteArray), (⟨#[99, 111, 110, 102, 105, 103, 119, 114, 105, 116, 101]⟩ : ByteArray), (⟨#[99, 111, 109, 112, 108, 101, 116, 105, 111, 110]⟩ : ByteArray)] : List ByteArray) : List ByteArray)).bind fun y102 => (if 0 ≤ (wrap64 (a0 - 1)) then (if (wrap64 (a0 - 1)) < (y102.length : Int) then (some (rdOf ByteArray.empty y102 (wrap64 (a0 - 1)))) else (none)) else (none))) else (some (⟨#[]⟩ : ByteArray))) = some r := H
  have A2 := Aside0.mk A20
  clear A20
  by_cases c3 : t101 = true
  · subst c3
    have H1 : ((some (([(⟨#[119, 114, 105, 116, 101]⟩ : ByteArray), (⟨#[109, 101, 115, 115, 97, 103, 101]⟩ : ByteArray), (⟨#[114, 101, 97, 100]⟩ : ByteArray), (⟨#[99, 111, 110, 102, 105, 103, 114, 101, 97, 100]⟩ : ByteArray), (⟨#[99, 111, 110, 102, 105, 103, 119, 114, 105, 116, 101]⟩ : ByteArray), (⟨#[99, 111, 109, 112, 108, 101, 116, 105, 111, 110]⟩ : ByteArray)] : List ByteArray) : List ByteArray)).bind fun y102 => (if 0 ≤ (wrap64 (a0 - 1)) then (if (wrap64 (a0 - 1)) < (y102.length : Int) then (some (rdOf ByteArray.empty y102 (wrap64 (a0 - 1)))) else (none)) else (none))) = some r := by rw [if_pos rfl] at H; exact H
    clear H
    have H := H1
    clear H1
    obtain ⟨y102, hy102⟩ : ∃ y_ : List ByteArray, y_ = (([(⟨#[119, 114, 105, 116, 101]⟩ : ByteArray), (⟨#[109, 101, 115, 115, 97, 103, 101]⟩ : ByteArray), (⟨#[114, 101, 97, 100]⟩ : ByteArray), (⟨#[99, 111, 110, 102, 105, 103, 114, 101, 97, 100]⟩ : ByteArray), (⟨#[99, 111, 110, 102, 105, 103, 119, 114, 105, 116, 101]⟩ : ByteArray), (⟨#[99, 111, 109, 112, 108, 101, 116, 105, 111, 110]⟩ : ByteArray)] : List ByteArray)) := ⟨_, rfl⟩
    replace H : (if 0 ≤ (wrap64 (a0 - 1)) then (if (wrap64 (a0 - 1)) < (y102.length : Int) then (some (rdOf ByteArray.empty y102 (wrap64 (a0 - 1)))) else (none)) else (none)) = some r := by first | (rw [hy102]; with_reducible exact H) | (have H2_ := (Option.bind_some _ _).symm.trans H; rw [hy102]; with_reducible exact H2_) | (have H2_ := (Option.bind_some _ _).symm.trans H; with_reducible exact H2_) | with_reducible exact H | (rw [hy102]; exact H) | exact H
    have Ny102 := Aside0.mk hy102
    clear hy102
    obtain ⟨ji4, hji4⟩ : ∃ j_ : Int, (wrap64 (a0 - 1)) = j_ := ⟨_, rfl⟩
    replace H : (if 0 ≤ (ji4) then (if (ji4) < (y102.length : Int) then (some (rdOf ByteArray.empty y102 (ji4))) else (none)) else (none)) = some r := by first | (rw [hji4] at H; exact H) | (simp only [hji4] at H ⊢; exact H)
    (try rw [hji4] at A2)
    have hji4w : (IntKind.i64.wrap (a0 - 1)) = ji4 := (i64_w _).trans hji4
    by_cases c5 : 0 ≤ (ji4)
    · rw [if_pos c5] at H
      have c5b0 : decide (0 ≤ (ji4)) = true := decide_eq_true c5
      clear c5
      by_cases c6 : (ji4) < (y102.length : Int)
      · rw [if_pos c6] at H
        have c6b0 : decide ((ji4) < (y102.length : Int)) = true := decide_eq_true c6
        clear c6
        obtain rfl := Option.some.inj H
        go_enter Try.func18, Try.ntmps18
        go_wp2_with (first | ((with_reducible refine gate_callee (f := 34) rfl ?_); refine goesL_ (some 4) rfl rfl Try.func34 (by kernel_rfl) rfl #[.int .i64 a0, .int .i64 1, .int .i64 6] rfl (by (try simp only [List.map_toArray, List.map_cons, List.map_nil]); first | done | rfl | (simp only [List.length_drop, List.length_take]; rfl)) ?_; (with_reducible refine (spec_l01In.calls a0 1 6 true _ A2.out).mono ?_); rintro e w' ⟨rfl, ⟨nd, rfl⟩⟩; refine ⟨_, rfl, ?_⟩) | ((with_reducible refine gate_dst (N := 6) rfl ?_); refine Kd.R_lit Kd.string _ 9 ?hg (N := 6) ?hd (xs := ([(⟨#[119, 114, 105, 116, 101]⟩ : ByteArray), (⟨#[109, 101, 115, 115, 97, 103, 101]⟩ : ByteArray), (⟨#[114, 101, 97, 100]⟩ : ByteArray), (⟨#[99, 111, 110, 102, 105, 103, 114, 101, 97, 100]⟩ : ByteArray), (⟨#[99, 111, 110, 102, 105, 103, 119, 114, 105, 116, 101]⟩ : ByteArray), (⟨#[99, 111, 109, 112, 108, 101, 116, 105, 111, 110]⟩ : ByteArray)] : List ByteArray)) (inner := [.string (⟨#[119, 114, 105, 116, 101]⟩ : ByteArray), .string (⟨#[109, 101, 115, 115, 97, 103, 101]⟩ : ByteArray), .string (⟨#[114, 101, 97, 100]⟩ : ByteArray), .string (⟨#[99, 111, 110, 102, 105, 103, 114, 101, 97, 100]⟩ : ByteArray), .string (⟨#[99, 111, 110, 102, 105, 103, 119, 114, 105, 116, 101]⟩ : ByteArray), .string (⟨#[99, 111, 109, 112, 108, 101, 116, 105, 111, 110]⟩ : ByteArray)]) (ok := fun _ => True) (okp := fun _ => True) ?hr ?hp (fun _ hk => hk) trivial (Below.refl _ _) (Nat.le_refl _) (by simp) ?_; (case hd => rfl); (case hg => rfl); (case hr => first | (go_simp; done) | (go_simp; rfl)); (case hp => exact (Reps.one (show Kd.M Kd.string _ _ _ (⟨#[119, 114, 105, 116, 101]⟩ : ByteArray) [.string (⟨#[119, 114, 105, 116, 101]⟩ : ByteArray)] from rfl) (Reps.one (show Kd.M Kd.string _ _ _ (⟨#[109, 101, 115, 115, 97, 103, 101]⟩ : ByteArray) [.string (⟨#[109, 101, 115, 115, 97, 103, 101]⟩ : ByteArray)] from rfl) (Reps.one (show Kd.M Kd.string _ _ _ (⟨#[114, 101, 97, 100]⟩ : ByteArray) [.string (⟨#[114, 101, 97, 100]⟩ : ByteArray)] from rfl) (Reps.one (show Kd.M Kd.string _ _ _ (⟨#[99, 111, 110, 102, 105, 103, 114, 101, 97, 100]⟩ : ByteArray) [.string (⟨#[99, 111, 110, 102, 105, 103, 114, 101, 97, 100]⟩ : ByteArray)] from rfl) (Reps.one (show Kd.M Kd.string _ _ _ (⟨#[99, 111, 110, 102, 105, 103, 119, 114, 105, 116, 101]⟩ : ByteArray) [.string (⟨#[99, 111, 110, 102, 105, 103, 119, 114, 105, 116, 101]⟩ : ByteArray)] from rfl) (Reps.one (show Kd.M Kd.string _ _ _ (⟨#[99, 111, 109, 112, 108, 101, 116, 105, 111, 110]⟩ : ByteArray) [.string (⟨#[99, 111, 109, 112, 108, 101, 116, 105, 111, 110]⟩ : ByteArray)] from rfl) (Reps.none _ _)))))))); intro v103 w7 ho8 hb hg_ hnew_; clear hg_ hnew_; (first | rw [← Ny102.out] at ho8 | (simp only [Int.reduceToNat] at ho8; rw [← Ny102.out] at ho8)); have n0_ := Aside0.mk (Kd.R_lower ho8 (below_size (by repeat (first | (with_reducible first | exact HB.out | apply below_alloc | apply pw_below_drewN | apply below_drew1) | exact HB.out)))); have n1_ := Aside0.mk (below_step (by repeat (first | (with_reducible first | exact HB.out | apply below_alloc | apply pw_below_drewN | apply below_drew1) | exact HB.out)) hb); clear HB; have HO104 := n0_; have HB := n1_; clear n0_ n1_; clear hb ho8; obtain ⟨Ao9, co9, eo9⟩ := Kd.R_slice HO104.out; subst eo9; have p105 : 0 ≤ ((ji4) : Int) := of_decide_eq_true (by first | (with_reducible assumption) | assumption); have q105 : (ji4) < (y102.length : Int) := of_decide_eq_true (by first | (with_reducible assumption) | assumption); obtain ⟨ad105, e105, hx105_0⟩ := Kd.at_string (Kd.R_reads' HO104.out).2.2 (ji4) p105 q105; cases e105; replace p105 := eq_true p105; replace q105 := eq_true q105))
        go_ret
        exact ⟨by first | rfl | (simp [errW_none, errW_some] <;> rfl) | (simp only [← hji4]; first | rfl | (simp [errW_none, errW_some] <;> rfl)) | (simp [*, errW_none, errW_some] <;> rfl), by repeat (first | (with_reducible first | exact HB.out | apply below_alloc | apply pw_below_drewN | apply below_drew1) | exact HB.out)⟩
      · rw [if_neg c6] at H
        exact absurd H (by simp)
    · rw [if_neg c5] at H
      exact absurd H (by simp)
  · replace c3 := Bool.eq_false_iff.mpr c3
    subst c3
    have H1 : (some (⟨#[]⟩ : ByteArray)) = some r := by rw [if_neg (show ¬ (false = true) by decide)] at H; exact H
    clear H
    have H := H1
    clear H1
    obtain rfl := Option.some.inj H
    go_enter Try.func18, Try.ntmps18
    go_wp2_with (first | ((with_reducible refine gate_callee (f := 34) rfl ?_); refine goesL_ (some 4) rfl rfl Try.func34 (by kernel_rfl) rfl #[.int .i64 a0, .int .i64 1, .int .i64 6] rfl (by (try simp only [List.map_toArray, List.map_cons, List.map_nil]); first | done | rfl | (simp only [List.length_drop, List.length_take]; rfl)) ?_; (with_reducible refine (spec_l01In.calls a0 1 6 false _ A2.out).mono ?_); rintro e w' ⟨rfl, ⟨nd, rfl⟩⟩; refine ⟨_, rfl, ?_⟩))
    go_ret
    exact ⟨by first | rfl | (simp [errW_none, errW_some] <;> rfl) | (simp [*, errW_none, errW_some] <;> rfl), by repeat (first | (with_reducible first | exact HB.out | apply below_alloc | apply pw_below_drewN | apply below_drew1) | exact HB.out)⟩

/-! ### impl_within: function 35 -/
def impl_within.f (a0 : Int) (a1 : Int) (a2 : Int) : Option (Bool) := if a0 ≥ a1 then (some (decide (a0 ≤ a2))) else (some false)
set_option maxHeartbeats 8000000 in
set_option maxRecDepth 100000 in
theorem impl_within.calls (a0 : Int) (a1 : Int) (a2 : Int) (r : Bool) (w : World) (h : impl_within.f a0 a1 a2 = some r) :
    Calls Try.prog 35 #[.int .i64 a0, .int .i64 a1, .int .i64 a2] w fun e w' => e = .returned (.bool r) ∧ Drawn0 w w' := by
  have H : (if a0 ≥ a1 then (some (decide (a0 ≤ a2))) else (some false)) = some r := h
  clear h
  by_cases c4 : a0 ≥ a1
  · rw [if_pos c4] at H
    have c4b0 : decide (a1 ≤ a0) = true := decide_eq_true c4
    clear c4
    obtain rfl := Option.some.inj H
    go_enter Try.func35, Try.ntmps35
    go_wp2
    go_ret
    exact ⟨by first | rfl | (simp; done) | (simp [*]; done), by repeat (first | exact Drawn0.refl _ | apply Drawn0.step)⟩
  · rw [if_neg c4] at H
    have c4b0 : decide (a1 ≤ a0) = false := decide_eq_false c4
    clear c4
    obtain rfl := Option.some.inj H
    go_enter Try.func35, Try.ntmps35
    go_wp2
    go_ret
    exact ⟨by first | rfl | (simp; done) | (simp [*]; done), by repeat (first | exact Drawn0.refl _ | apply Drawn0.step)⟩

/-! ### impl_KindName: function 19 -/
def impl_KindName.f (a0 : Int) : Option (ByteArray) := if a0 = 1 then some (⟨#[119, 114, 105, 116, 101]⟩ : ByteArray) else if a0 = 2 then some (⟨#[109, 101, 115, 115, 97, 103, 101]⟩ : ByteArray) else if a0 = 3 then some (⟨#[114, 101, 97, 100]⟩ : ByteArray) else if a0 = 4 then some (⟨#[99, 111, 110, 102, 105, 103, 114, 101, 97, 100]⟩ : ByteArray) else if a0 = 5 then some (⟨#[99, 111, 110, 102, 105, 103, 119, 114, 105, 116, 101]⟩ : ByteArray) else if a0 = 6 then some (⟨#[99, 111, 109, 112, 108, 101, 116, 105, 111, 110]⟩ : ByteArray) else some (⟨#[]⟩ : ByteArray)
set_option maxHeartbeats 8000000 in
set_option maxRecDepth 100000 in
theorem impl_KindName.calls (a0 : Int) (r : ByteArray) (w : World) (h : impl_KindName.f a0 = some r) :
    Calls Try.prog 19 #[.int .i64 a0] w fun e w' => e = .returned (.string r) ∧ Drawn0 w w' := by
  unfold impl_KindName.f at h
  by_cases c1 : a0 = 1
  · subst c1
    simp at h
    subst h
    have hc := impl_within.calls 1 1 6 true
    have hX : ∀ w, (Instr.index 31 (.agg #[.string (⟨#[119, 114, 105, 116, 101]⟩ : ByteArray), .string (⟨#[109, 101, 115, 115, 97, 103, 101]⟩ : ByteArray), .string (⟨#[114, 101, 97, 100]⟩ : ByteArray), .string (⟨#[99, 111, 110, 102, 105, 103, 114, 101, 97, 100]⟩ : ByteArray), .string (⟨#[99, 111, 110, 102, 105, 103, 119, 114, 105, 116, 101]⟩ : ByteArray), .string (⟨#[99, 111, 109, 112, 108, 101, 116, 105, 111, 110]⟩ : ByteArray)]) (.int .i64 0)).run Try.prog w = .ok (.string (⟨#[119, 114, 105, 116, 101]⟩ : ByteArray)) w := fun w => by
      simp [Instr.index, run_underlying Try.underlying31, asIntOf, go_sem]
    go_enter Try.func19, Try.ntmps19
    go_wp2_with (go_at_call 35; (with_reducible refine (hc _ (by decide)).mono ?_); rintro e w' ⟨rfl, ⟨q, rfl⟩⟩)
    go_ret
    exact ⟨rfl, ⟨⟨q, rfl⟩⟩⟩
  by_cases c2 : a0 = 2
  · subst c2
    simp at h
    subst h
    have hc := impl_within.calls 2 1 6 true
    have hX : ∀ w, (Instr.index 31 (.agg #[.string (⟨#[119, 114, 105, 116, 101]⟩ : ByteArray), .string (⟨#[109, 101, 115, 115, 97, 103, 101]⟩ : ByteArray), .string (⟨#[114, 101, 97, 100]⟩ : ByteArray), .string (⟨#[99, 111, 110, 102, 105, 103, 114, 101, 97, 100]⟩ : ByteArray), .string (⟨#[99, 111, 110, 102, 105, 103, 119, 114, 105, 116, 101]⟩ : ByteArray), .string (⟨#[99, 111, 109, 112, 108, 101, 116, 105, 111, 110]⟩ : ByteArray)]) (.int .i64 1)).run Try.prog w = .ok (.string (⟨#[109, 101, 115, 115, 97, 103, 101]⟩ : ByteArray)) w := fun w => by
      simp [Instr.index, run_underlying Try.underlying31, asIntOf, go_sem]
    go_enter Try.func19, Try.ntmps19
    go_wp2_with (go_at_call 35; (with_reducible refine (hc _ (by decide)).mono ?_); rintro e w' ⟨rfl, ⟨q, rfl⟩⟩)
    go_ret
    exact ⟨rfl, ⟨⟨q, rfl⟩⟩⟩
  by_cases c3 : a0 = 3
  · subst c3
    simp at h
    subst h
    have hc := impl_within.calls 3 1 6 true
    have hX : ∀ w, (Instr.index 31 (.agg #[.string (⟨#[119, 114, 105, 116, 101]⟩ : ByteArray), .string (⟨#[109, 101, 115, 115, 97, 103, 101]⟩ : ByteArray), .string (⟨#[114, 101, 97, 100]⟩ : ByteArray), .string (⟨#[99, 111, 110, 102, 105, 103, 114, 101, 97, 100]⟩ : ByteArray), .string (⟨#[99, 111, 110, 102, 105, 103, 119, 114, 105, 116, 101]⟩ : ByteArray), .string (⟨#[99, 111, 109, 112, 108, 101, 116, 105, 111, 110]⟩ : ByteArray)]) (.int .i64 2)).run Try.prog w = .ok (.string (⟨#[114, 101, 97, 100]⟩ : ByteArray)) w := fun w => by
      simp [Instr.index, run_underlying Try.underlying31, asIntOf, go_sem]
    go_enter Try.func19, Try.ntmps19
    go_wp2_with (go_at_call 35; (with_reducible refine (hc _ (by decide)).mono ?_); rintro e w' ⟨rfl, ⟨q, rfl⟩⟩)
    go_ret
    exact ⟨rfl, ⟨⟨q, rfl⟩⟩⟩
  by_cases c4 : a0 = 4
  · subst c4
    simp at h
    subst h
    have hc := impl_within.calls 4 1 6 true
    have hX : ∀ w, (Instr.index 31 (.agg #[.string (⟨#[119, 114, 105, 116, 101]⟩ : ByteArray), .string (⟨#[109, 101, 115, 115, 97, 103, 101]⟩ : ByteArray), .string (⟨#[114, 101, 97, 100]⟩ : ByteArray), .string (⟨#[99, 111, 110, 102, 105, 103, 114, 101, 97, 100]⟩ : ByteArray), .string (⟨#[99, 111, 110, 102, 105, 103, 119, 114, 105, 116, 101]⟩ : ByteArray), .string (⟨#[99, 111, 109, 112, 108, 101, 116, 105, 111, 110]⟩ : ByteArray)]) (.int .i64 3)).run Try.prog w = .ok (.string (⟨#[99, 111, 110, 102, 105, 103, 114, 101, 97, 100]⟩ : ByteArray)) w := fun w => by
      simp [Instr.index, run_underlying Try.underlying31, asIntOf, go_sem]
    go_enter Try.func19, Try.ntmps19
    go_wp2_with (go_at_call 35; (with_reducible refine (hc _ (by decide)).mono ?_); rintro e w' ⟨rfl, ⟨q, rfl⟩⟩)
    go_ret
    exact ⟨rfl, ⟨⟨q, rfl⟩⟩⟩
  by_cases c5 : a0 = 5
  · subst c5
    simp at h
    subst h
    have hc := impl_within.calls 5 1 6 true
    have hX : ∀ w, (Instr.index 31 (.agg #[.string (⟨#[119, 114, 105, 116, 101]⟩ : ByteArray), .string (⟨#[109, 101, 115, 115, 97, 103, 101]⟩ : ByteArray), .string (⟨#[114, 101, 97, 100]⟩ : ByteArray), .string (⟨#[99, 111, 110, 102, 105, 103, 114, 101, 97, 100]⟩ : ByteArray), .string (⟨#[99, 111, 110, 102, 105, 103, 119, 114, 105, 116, 101]⟩ : ByteArray), .string (⟨#[99, 111, 109, 112, 108, 101, 116, 105, 111, 110]⟩ : ByteArray)]) (.int .i64 4)).run Try.prog w = .ok (.string (⟨#[99, 111, 110, 102, 105, 103, 119, 114, 105, 116, 101]⟩ : ByteArray)) w := fun w => by
      simp [Instr.index, run_underlying Try.underlying31, asIntOf, go_sem]
    go_enter Try.func19, Try.ntmps19
    go_wp2_with (go_at_call 35; (with_reducible refine (hc _ (by decide)).mono ?_); rintro e w' ⟨rfl, ⟨q, rfl⟩⟩)
    go_ret
    exact ⟨rfl, ⟨⟨q, rfl⟩⟩⟩
  by_cases c6 : a0 = 6
  · subst c6
    simp at h
    subst h
    have hc := impl_within.calls 6 1 6 true
    have hX : ∀ w, (Instr.index 31 (.agg #[.string (⟨#[119, 114, 105, 116, 101]⟩ : ByteArray), .string (⟨#[109, 101, 115, 115, 97, 103, 101]⟩ : ByteArray), .string (⟨#[114, 101, 97, 100]⟩ : ByteArray), .string (⟨#[99, 111, 110, 102, 105, 103, 114, 101, 97, 100]⟩ : ByteArray), .string (⟨#[99, 111, 110, 102, 105, 103, 119, 114, 105, 116, 101]⟩ : ByteArray), .string (⟨#[99, 111, 109, 112, 108, 101, 116, 105, 111, 110]⟩ : ByteArray)]) (.int .i64 5)).run Try.prog w = .ok (.string (⟨#[99, 111, 109, 112, 108, 101, 116, 105, 111, 110]⟩ : ByteArray)) w := fun w => by
      simp [Instr.index, run_underlying Try.underlying31, asIntOf, go_sem]
    go_enter Try.func19, Try.ntmps19
    go_wp2_with (go_at_call 35; (with_reducible refine (hc _ (by decide)).mono ?_); rintro e w' ⟨rfl, ⟨q, rfl⟩⟩)
    go_ret
    exact ⟨rfl, ⟨⟨q, rfl⟩⟩⟩
  · rw [if_neg c1, if_neg c2, if_neg c3, if_neg c4, if_neg c5, if_neg c6] at h
    obtain rfl := Option.some.inj h
    have hb : impl_within.f a0 1 6 = some false := by
      unfold impl_within.f
      by_cases q : 1 ≤ a0
      · simp [q]; omega
      · simp [q]
    have hc := fun w => impl_within.calls a0 1 6 false w hb
    go_enter Try.func19, Try.ntmps19
    go_wp2_with (go_at_call 35; (with_reducible refine (hc _).mono ?_); rintro e w' ⟨rfl, ⟨q, rfl⟩⟩)
    go_ret
    exact ⟨rfl, ⟨⟨q, rfl⟩⟩⟩

/-! ### laws_FnExactKindName: function 6 -/
def laws_FnExactKindName.f (a0 : Int) : Option (Bool) := (spec_KindName.f a0).bind fun t106 => ((impl_KindName.f a0).bind fun t107 => (if t107.toList = t106.toList then (some true) else (none)))
set_option maxHeartbeats 8000000 in
set_option maxRecDepth 100000 in
theorem laws_FnExactKindName.calls (a0 : Int) (r : Bool) (w : World) (h : laws_FnExactKindName.f a0 = some r) :
    Calls Try.prog 6 #[.int .i64 a0] w fun e w' => e = .returned (.bool r) ∧ Below w.heap.size w w' := by
  have HB := Aside0.mk (Below.refl w.heap.size w)
  have H : ((spec_KindName.f a0).bind fun t106 => ((impl_KindName.f a0).bind fun t107 => (if t107.toList = t106.toList then (some true) else (none)))) = some r := h
  clear h
  replace H := Option.bind_eq_some_iff.mp H
  obtain ⟨t106, A20, H⟩ := H
  replace H : ((impl_KindName.f a0).bind fun t107 => (if t107.toList = t106.toList then (some true) else (none))) = some r := H
  have A2 := Aside0.mk A20
  clear A20
  replace H := Option.bind_eq_some_iff.mp H
  obtain ⟨t107, A30, H⟩ := H
  replace H : (if t107.toList = t106.toList then (some true) else (none)) = some r := H
  have A3 := Aside0.mk A30
  clear A30
  by_cases c4 : t107.toList = t106.toList
  · rw [if_pos c4] at H
    have c4b0 : (t107.toList == t106.toList) = true := beq_iff_eq.mpr c4
    have c4b1 : (t107.toList != t106.toList) = false := bne_eq_false_iff_eq.mpr c4
    clear c4
    obtain rfl := Option.some.inj H
    go_enter Try.func6, Try.ntmps6
    go_wp2_with (first | ((with_reducible refine gate_callee (f := 18) rfl ?_); refine goesL_ (some 6) rfl rfl Try.func18 (by kernel_rfl) rfl #[.int .i64 a0] rfl (by (try simp only [List.map_toArray, List.map_cons, List.map_nil]); first | done | rfl | (simp only [List.length_drop, List.length_take]; rfl)) ?_; (with_reducible refine (spec_KindName.calls a0 t106 _ A2.out).mono ?_); rintro e w5 ⟨rfl, hb⟩; refine ⟨_, rfl, ?_⟩; have n0_ := Aside0.mk (below_step (by repeat (first | (with_reducible first | exact HB.out | apply below_alloc | apply pw_below_drewN | apply below_drew1) | exact HB.out)) hb); clear HB; have HB := n0_; clear n0_; (try clear hb); (try clear hb2); (try clear hk); (try clear hi)) | ((with_reducible refine gate_callee (f := 19) rfl ?_); refine goesL_ (some 8) rfl rfl Try.func19 (by kernel_rfl) rfl #[.int .i64 a0] rfl (by (try simp only [List.map_toArray, List.map_cons, List.map_nil]); first | done | rfl | (simp only [List.length_drop, List.length_take]; rfl)) ?_; (with_reducible refine (impl_KindName.calls a0 t107 _ A3.out).mono ?_); rintro e w' ⟨rfl, ⟨nd, rfl⟩⟩; refine ⟨_, rfl, ?_⟩))
    go_ret
    exact ⟨by first | rfl | (simp [errW_none, errW_some] <;> rfl) | (simp [*, errW_none, errW_some] <;> rfl), by repeat (first | (with_reducible first | exact HB.out | apply below_alloc | apply pw_below_drewN | apply below_drew1) | exact HB.out)⟩
  · rw [if_neg c4] at H
    exact absurd H (by simp)

/-- THE ONE PURE STATEMENT of laws_FnExactKindName: yours. -/
def laws_FnExactKindName.Pure : Prop := ∀ (a0 : Int), (Lit.int .i64 a0).wf = true → laws_FnExactKindName.f a0 = some true
theorem laws_FnExactKindName.walk (P : laws_FnExactKindName.Pure) (a0 : Int) (w : World) (w0 : (Lit.int .i64 a0).wf = true) :
    Calls Try.prog 6 #[.int .i64 a0] w fun e w' => e = .returned (.bool true) ∧ Below w.heap.size w w' := by
  have h := P a0 w0
  refine (laws_FnExactKindName.calls a0 true w h).mono ?_
  rintro e w' ⟨rfl, hd⟩
  exact ⟨rfl, hd⟩

end Go.Proofs.Ytnfkifcbemppjaa.PFnExactKindName
