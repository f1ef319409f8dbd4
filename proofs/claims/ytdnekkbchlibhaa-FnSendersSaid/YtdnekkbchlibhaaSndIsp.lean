/- The reference's IsPacket, EncodePacket, l04Packet and l08Bytes answer: a Bool, a row of whole numbers, a packet. Conditions: the rows read as the lists, and are short. -/
import Derived.Test.YtdnekkbchlibhaaSndPure
namespace Go.Proofs.Ytdnekkbchlibhaa.PFnSenders
open Go.RowKit Go.Proofs.YtdnekkbchlibhaaW.PrintWords Go.Proofs.YtdnekkbchlibhaaW.PrintLast Go.Proofs.YtdnekkbchlibhaaW.PrintMore Go.Proofs.Ytdnekkbchlibhaa.Pure
attribute [local go_sem] max2_int min2_int max_two min_two max_three min_three max_four min_four   -- for this text's walks alone
set_option linter.unusedVariables false
set_option linter.unusedSimpArgs false


/-- What answers a Bool. -/
def RetB (e : Ending) : Prop := ∃ r, e = .returned (.bool r)
set_option maxHeartbeats 4000000 in
set_option maxRecDepth 100000 in
theorem spec_l04Zero.weak (a0 a1 a2 a3 a4 a5 a6 : Int) (A7 : Option Addr) (n7 c7 : Nat) (b1 b2 b3 : Bool) (w : World) :
    Calls Try.prog 116 #[.agg #[.int .i64 a0, .int .i64 a1, .int .i64 a2, .int .i64 a3, .int .i64 a4, .int .i64 a5, .int .i64 a6, .slice A7 n7 c7], .bool b1, .bool b2, .bool b3] w fun e w' => RetB e ∧ Below w.heap.size w w' := by
  go_enter Try.func116, Try.ntmps116
  go_wp2
  all_goals
    go_ret
    exact ⟨⟨_, rfl⟩, by repeat (first | (with_reducible exact Below.refl _ _) | (with_reducible apply below_alloc) | (with_reducible apply pw_below_drewN) | (with_reducible apply below_drew1))⟩
set_option maxHeartbeats 8000000 in
set_option maxRecDepth 100000 in
theorem spec_IsPacket.weak (a0 a1 a2 a3 a4 a5 a6 : Int) (A7 : Option Addr) (c7 : Nat) (l7 : List Int) (w : World) (hr7 : Kd.C (Kd.int .i64) w A7 l7.length l7) (hc7 : l7.length ≤ c7) (hl7 : l7.length ≤ 1048576) :
    Calls Try.prog 111 #[.agg #[.int .i64 a0, .int .i64 a1, .int .i64 a2, .int .i64 a3, .int .i64 a4, .int .i64 a5, .int .i64 a6, .slice A7 l7.length c7]] w fun e w' => RetB e ∧ Below w.heap.size w w' := by
  obtain ⟨r0, hr0⟩ := words_some l7 hl7 1048577 (by omega)
  have HR := Aside0.mk hr7
  have HC := Aside0.mk hc7
  have H0 := Aside0.mk hr0
  clear hr7 hc7 hr0 hl7
  go_enter Try.func111, Try.ntmps111
  go_wp2_with (first | (go_at_call 115; refine (spec_l04Words.calls 1048577 _ _ l7 r0 _ ?s1 HC.out H0.out).mono ?_; (case s1 => (repeat (first | exact HR.out | (with_reducible refine Kd.C_alloc ?_ _) | (with_reducible refine Kd.C_drewN ?_ _) | (with_reducible refine Kd.C_drew ?_)))); rintro e w' ⟨rfl, ⟨nd, rfl⟩⟩) | (go_at_call 116; refine (spec_l04Zero.weak _ _ _ _ _ _ _ _ _ _ _ _ _ _).mono ?_; rintro e w' ⟨⟨r, rfl⟩, hb⟩) | (go_at_call 78; go_in) | (go_at_call 114; go_in))
  all_goals
    go_ret
    refine ⟨⟨_, rfl⟩, ?_⟩
    first
      | exact hb
      | (refine below_step ?_ hb; ((repeat (first | (with_reducible exact Below.refl _ _) | (with_reducible apply pw_below_drewN) | (with_reducible apply below_alloc) | (with_reducible apply below_drew1))); done))
      | ((repeat (first | (with_reducible exact Below.refl _ _) | (with_reducible apply pw_below_drewN) | (with_reducible apply below_alloc) | (with_reducible apply below_drew1))); done)


end Go.Proofs.Ytdnekkbchlibhaa.PFnSenders
