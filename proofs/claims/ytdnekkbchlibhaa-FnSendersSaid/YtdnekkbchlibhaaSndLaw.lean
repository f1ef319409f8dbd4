/- The law FnSenders answers true. Conditions: the row of bytes reads as the list. -/
import Derived.Test.YtdnekkbchlibhaaSndIv
namespace Go.Proofs.Ytdnekkbchlibhaa.PFnSenders
open Go.RowKit Go.Proofs.YtdnekkbchlibhaaW.PrintWords Go.Proofs.YtdnekkbchlibhaaW.PrintLast Go.Proofs.YtdnekkbchlibhaaW.PrintMore Go.Proofs.Ytdnekkbchlibhaa.Pure Go.Proofs.Ytdnekkbchlibhaa.Own
attribute [local go_sem] max2_int min2_int max_two min_two max_three min_three max_four min_four   -- for this text's walks alone
set_option linter.unusedVariables false
set_option linter.unusedSimpArgs false


def laws_FnSenders.T7 : Bool × List (List Nat × List Nat) := (true, [([], []), ([], []), ([1], [1]), ([2], [2]), ([3], [3]), ([0, 4], [0, 4]), ([5], [5]), ([6], [6]), ([7, 6, 6], [6, 7]), ([8], [8]), ([9, 8], [8, 9]), ([8], [8]), ([11, 8], [8, 11]), ([12, 8], [8, 12]), ([13, 8], [8, 13]), ([14, 8], [8, 14]), ([10, 15, 8], [8, 10, 15]), ([16, 8, 8], [8, 16]), ([17], [17]), ([18, 17], [17, 18]), ([19, 17], [17, 19]), ([17, 20, 8], [8, 17, 20]), ([21, 17, 8], [8, 21]), ([22], [22]), ([23, 22, 22], [22, 23]), ([24, 22], [22, 24]), ([22, 25, 8], [8, 22, 25]), ([8, 26, 6], [6, 8, 26]), ([6, 27], [6, 27])])
def laws_FnSenders.B7 : List Nat := [0, 0, 2, 6, 14, 31, 63, 127, 255, 511, 1023, 511, 2559, 6655, 14847, 31231, 65535, 131071, 262143, 524287, 1048575, 2097151, 4194303, 8388607, 16777215, 33554431, 67108863, 134217727, 268435455]
theorem laws_FnSenders.tab7 : rtab .any (opsOf Try.f12 7) = laws_FnSenders.T7 := by kernel_rfl
theorem laws_FnSenders.bits7 : waitsOk laws_FnSenders.T7.2 laws_FnSenders.B7 = true := by kernel_rfl
def laws_FnSenders.T10 : Bool × List (List Nat × List Nat) := (true, [([], []), ([], []), ([1], [1]), ([2], [2]), ([3], [3]), ([0, 4], [0, 4]), ([5], [5]), ([6], [6]), ([7, 6, 6], [6, 7]), ([8, 6], [6, 8]), ([6, 9], [6, 9]), ([10, 8], [10]), ([11], [11]), ([12, 11], [11, 12]), ([13, 11], [11, 13]), ([11], [11]), ([15, 11], [11, 15]), ([16, 11], [11, 16]), ([11], [11]), ([18, 11, 11], [11, 18]), ([17, 19, 11], [11, 17, 19]), ([14, 20, 11], [11, 14, 20]), ([11, 21], [11, 21])])
def laws_FnSenders.B10 : List Nat := [0, 0, 2, 6, 14, 31, 63, 127, 255, 511, 1023, 2047, 4095, 8191, 16383, 4095, 36863, 102399, 4095, 266239, 1019903, 2097151, 4194303]
theorem laws_FnSenders.tab10 : rtab .any (opsOf Try.f12 10) = laws_FnSenders.T10 := by kernel_rfl
theorem laws_FnSenders.bits10 : waitsOk laws_FnSenders.T10.2 laws_FnSenders.B10 = true := by kernel_rfl
def laws_FnSenders.T15 : Bool × List (List Nat × List Nat) := (true, [([], []), ([], []), ([1], [1]), ([], []), ([2, 3], [2, 3]), ([4], [4]), ([5], [5]), ([0, 6], [0, 6]), ([7], [7]), ([8], [8]), ([8], [8]), ([], []), ([11, 9, 7, 0, 1, 2, 3, 4, 5, 6, 7, 8, 9, 11], [9, 11]), ([10, 12, 0, 1, 2, 3, 4, 5, 6, 7, 8, 9, 10, 11, 12], [10])])
def laws_FnSenders.B15 : List Nat := [0, 0, 2, 0, 14, 30, 62, 127, 255, 511, 511, 0, 3071, 8191]
theorem laws_FnSenders.tab15 : rtab .any (opsOf Try.f12 15) = laws_FnSenders.T15 := by kernel_rfl
theorem laws_FnSenders.bits15 : waitsOk laws_FnSenders.T15.2 laws_FnSenders.B15 = true := by kernel_rfl
set_option maxHeartbeats 16000000 in
set_option maxRecDepth 100000 in
theorem laws_FnSenders.calls (A0 : Option Addr) (c0 : Nat) (l0 : List Int) (w : World) (hr0 : Kd.C (Kd.int .u8) w A0 l0.length l0) (hc0 : l0.length ≤ c0) (hb0 : ∀ x ∈ l0, (Lit.int .u8 x).wf = true) :
    Calls Try.prog 12 #[.slice A0 l0.length c0] w fun e w' => e = .returned (.bool true) ∧ Below w.heap.size w w' := by
  have hu54 := Try.underlying54
  have hu64 := Try.underlying64
  have HR := Aside0.mk hr0
  have HC := Aside0.mk hc0
  have HW := Aside0.mk hb0
  clear hr0 hc0 hb0
  by_cases hbig : (l0.length : Int) > 1048576
  · have HG := Aside0.mk (show laws_big.f l0 = some true by unfold laws_big.f; rw [decide_eq_true hbig])
    clear hbig
    go_enter Try.func12, Try.ntmps12
    go_wp2_with (go_at_call 13; refine (laws_big.calls _ _ l0 true _ HR.out HC.out HG.out).mono ?_; rintro e w' ⟨rfl, ⟨nd, rfl⟩⟩)
    go_ret
    exact ⟨rfl, pw_below_drewN (Below.refl _ _) nd⟩
  have HG := Aside0.mk (show laws_big.f l0 = some false by unfold laws_big.f; rw [decide_eq_false hbig])
  have HL := Aside0.mk (show l0.length ≤ 1048576 by omega)
  clear hbig
  have HI0 := Aside0.mk (Inv.start w)
  go_enter Try.func12, Try.ntmps12
  go_upto_region 7 with (first
    | (go_at_call 13; refine (laws_big.calls _ _ l0 false _ HR.out HC.out HG.out).mono ?_; rintro e w' ⟨rfl, ⟨nd, rfl⟩⟩)
    | (go_at_call 54; refine (draw_sender A0 c0 l0 _ ?s1 HC.out HL.out HW.out).mono ?_; (case s1 => (repeat (first | exact HR.out | (with_reducible refine Kd.C_drewN ?_ _) | (with_reducible refine Kd.C_drew ?_)))); rintro e w1 ⟨t, A, xs, c, u, rfl, ho, hq, hb⟩; have n0_ := fun h => Inv.newQ (w := w) (rows := []) (bs := []) h hb hq; obtain ⟨ok, hi⟩ := n0_ (by repeat (first | (with_reducible exact HI0.out) | (with_reducible refine Inv.drewN ?_ _) | (with_reducible refine Inv.drew ?_))); clear n0_ hb hq HI0; have HI1 := Aside0.mk hi; have HO := Aside0.mk ho; clear hi ho)
    | ((with_reducible refine gate_dst (N := 3) rfl ?_); refine box_event ?hg (N := 3) ?hd (cs := #[.int .i64 0, .slice none 0 0, .int .i64 0]) (t := 54) ?hr ?_; (case hd => rfl); (case hg => rfl); (case hr => first | (go_simp; done) | (go_simp; rfl)); intro gs hg w2 hbox hb; have n0_ := fun h => Inv.newbox (w := w) (rows := [CRow k64 64 w ok (.slice A xs.length c) xs]) (bs := []) h hb hg hbox; have HI2 := Aside0.mk (n0_ (by repeat (first | (with_reducible exact HI1.out) | (with_reducible refine Inv.drewN ?_ _) | (with_reducible refine Inv.drew ?_)))); clear n0_ hb hg hbox HI1; have hzgs0 : w2.cell? ⟨gs, 0, none⟩ = some (.int .i64 0) := (blk_cell (Inv.blk HI2.out (i := 0) rfl) 0).trans rfl; have hzfgs0 := blk_frozen (Inv.blk HI2.out (i := 0) rfl) 0; have hzgs1 : w2.cell? ⟨gs, 1, none⟩ = some (.slice none 0 0) := (blk_cell (Inv.blk HI2.out (i := 0) rfl) 1).trans rfl; have hzfgs1 := blk_frozen (Inv.blk HI2.out (i := 0) rfl) 1; have hzgs2 : w2.cell? ⟨gs, 2, none⟩ = some (.int .i64 0) := (blk_cell (Inv.blk HI2.out (i := 0) rfl) 2).trans rfl; have hzfgs2 := blk_frozen (Inv.blk HI2.out (i := 0) rfl) 2)
    | ((with_reducible refine gate_dst (N := 16) rfl ?_); refine wp_any (fun W1 => Inv w W1 [CRow k64 64 w ok (.slice A xs.length c) xs] [⟨gs, #[.int .i64 t, .slice A xs.length c, .int .i64 u], 54⟩]) ?s1 ?_; (case s1 => exact (Inv.put' (bs := [⟨gs, #[.int .i64 t, .slice A xs.length c, .int .i64 0], 54⟩]) (cs := #[.int .i64 t, .slice A xs.length c, .int .i64 0]) (Inv.put' (bs := [⟨gs, #[.int .i64 t, .slice none 0 0, .int .i64 0], 54⟩]) (cs := #[.int .i64 t, .slice none 0 0, .int .i64 0]) (Inv.put' (bs := [⟨gs, #[.int .i64 0, .slice none 0 0, .int .i64 0], 54⟩]) (cs := #[.int .i64 0, .slice none 0 0, .int .i64 0]) HI2.out 0 rfl 0 (.int .i64 t) rfl rfl) 0 rfl 1 (.slice A xs.length c) rfl rfl) 0 rfl 2 (.int .i64 u) rfl rfl)); intro w3 hp; clear HI2; clear hzgs0 hzfgs0 hzgs1 hzfgs1 hzgs2 hzfgs2; have HI := Aside0.mk hp; clear hp; have hzgs0 : w3.cell? ⟨gs, 0, none⟩ = some (.int .i64 t) := (blk_cell (Inv.blk HI.out (i := 0) rfl) 0).trans rfl; have hzgs1 : w3.cell? ⟨gs, 1, none⟩ = some (.slice A xs.length c) := (blk_cell (Inv.blk HI.out (i := 0) rfl) 1).trans rfl; have hzgs2 : w3.cell? ⟨gs, 2, none⟩ = some (.int .i64 u) := (blk_cell (Inv.blk HI.out (i := 0) rfl) 2).trans rfl)
    | (go_at_call 36; refine (ok_iv (w := w) (rows := [CRow k64 64 w ok (.slice A xs.length c) xs]) (bs := [⟨gs, #[.int .i64 t, .slice A xs.length c, .int .i64 u], 54⟩]) ?s1 0 rfl HO.out).mono ?_; (case s1 => exact (by repeat (first | (with_reducible exact HI.out) | (with_reducible refine Inv.drewN ?_ _) | (with_reducible refine Inv.drew ?_)))); rintro e w4 ⟨rfl, hi, -⟩; clear HI; clear hzgs0 hzgs1 hzgs2; have HI := Aside0.mk hi; clear hi; have hzgs0 : w4.cell? ⟨gs, 0, none⟩ = some (.int .i64 t) := (blk_cell (Inv.blk HI.out (i := 0) rfl) 0).trans rfl; have hzgs1 : w4.cell? ⟨gs, 1, none⟩ = some (.slice A xs.length c) := (blk_cell (Inv.blk HI.out (i := 0) rfl) 1).trans rfl; have hzgs2 : w4.cell? ⟨gs, 2, none⟩ = some (.int .i64 u) := (blk_cell (Inv.blk HI.out (i := 0) rfl) 2).trans rfl)
    | (go_at_call 39; refine (replay_iv (w := w) (rows := [CRow k64 64 w ok (.slice A xs.length c) xs]) (bs := [⟨gs, #[.int .i64 t, .slice A xs.length c, .int .i64 u], 54⟩]) ?s1 0 rfl HO.out).mono ?_; (case s1 => exact (by repeat (first | (with_reducible exact HI.out) | (with_reducible refine Inv.drewN ?_ _) | (with_reducible refine Inv.drew ?_)))); rintro e w5 ⟨Ar, cr, okr, rfl, hi⟩; clear HI; clear hzgs0 hzgs1 hzgs2; have HI3 := Aside0.mk hi; clear hi)
    | (go_at_call 45; refine (ready_iv (w := w) (rows := [CRow k64 64 w okr (.slice Ar xs.length cr) xs, CRow k64 64 w ok (.slice A xs.length c) xs]) (bs := [⟨gs, #[.int .i64 t, .slice A xs.length c, .int .i64 u], 54⟩]) ?s1 0 rfl (okS_zero t xs u HO.out)).mono ?_; (case s1 => exact (by repeat (first | (with_reducible exact HI3.out) | (with_reducible refine Inv.drewN ?_ _) | (with_reducible refine Inv.drew ?_)))); rintro e w6 ⟨Ax, cx, okx, ru, fs, A2, n2, c2, b, rfl, htk, hi⟩; clear HI3; have HI4 := Aside0.mk hi.drop2; have HTK := Aside0.mk htk; clear hi htk)
    | ((with_reducible refine gate_dst (N := 4) rfl ?_); refine box_event ?hg (N := 4) ?hd (cs := #[.int .i64 0, .slice none 0 0, .int .i64 0]) (t := 54) ?hr ?_; (case hd => rfl); (case hg => rfl); (case hr => first | (go_simp; done) | (go_simp; rfl)); intro gx hg w7 hbox hb; have n0_ := fun h => Inv.newbox (w := w) (rows := [CRow k64 64 w okx (.slice Ax xs.length cx) xs, CRow k64 64 w ok (.slice A xs.length c) xs]) (bs := [⟨gs, #[.int .i64 t, .slice A xs.length c, .int .i64 u], 54⟩]) h hb hg hbox; have HI5 := Aside0.mk (n0_ (by repeat (first | (with_reducible exact HI4.out) | (with_reducible refine Inv.drewN ?_ _) | (with_reducible refine Inv.drew ?_)))); clear n0_ hb hg hbox HI4)
    | ((with_reducible refine gate_dst (N := 5) rfl ?_); refine box_event ?hg (N := 5) ?hd (cs := #[.int .i64 0, .slice none 0 0]) (t := 64) ?hr ?_; (case hd => rfl); (case hg => rfl); (case hr => first | (go_simp; done) | (go_simp; rfl)); intro gf hg w8 hbox hb; have n0_ := fun h => Inv.newbox (w := w) (rows := [CRow k64 64 w okx (.slice Ax xs.length cx) xs, CRow k64 64 w ok (.slice A xs.length c) xs]) (bs := [⟨gx, #[.int .i64 0, .slice none 0 0, .int .i64 0], 54⟩, ⟨gs, #[.int .i64 t, .slice A xs.length c, .int .i64 u], 54⟩]) h hb hg hbox; have HI6 := Aside0.mk (n0_ (by repeat (first | (with_reducible exact HI5.out) | (with_reducible refine Inv.drewN ?_ _) | (with_reducible refine Inv.drew ?_)))); clear n0_ hb hg hbox HI5; have hn1 : gf ≠ gx := Inv.ne HI6.out (i := 0) (j := 1) rfl rfl (by decide); have hn2 : gx ≠ gf := Ne.symm hn1; have hzgf0 : w8.cell? ⟨gf, 0, none⟩ = some (.int .i64 0) := (blk_cell (Inv.blk HI6.out (i := 0) rfl) 0).trans rfl; have hzfgf0 := blk_frozen (Inv.blk HI6.out (i := 0) rfl) 0; have hzgf1 : w8.cell? ⟨gf, 1, none⟩ = some (.slice none 0 0) := (blk_cell (Inv.blk HI6.out (i := 0) rfl) 1).trans rfl; have hzfgf1 := blk_frozen (Inv.blk HI6.out (i := 0) rfl) 1; have hzgx0 : w8.cell? ⟨gx, 0, none⟩ = some (.int .i64 0) := (blk_cell (Inv.blk HI6.out (i := 1) rfl) 0).trans rfl; have hzfgx0 := blk_frozen (Inv.blk HI6.out (i := 1) rfl) 0; have hzgx1 : w8.cell? ⟨gx, 1, none⟩ = some (.slice none 0 0) := (blk_cell (Inv.blk HI6.out (i := 1) rfl) 1).trans rfl; have hzfgx1 := blk_frozen (Inv.blk HI6.out (i := 1) rfl) 1; have hzgx2 : w8.cell? ⟨gx, 2, none⟩ = some (.int .i64 0) := (blk_cell (Inv.blk HI6.out (i := 1) rfl) 2).trans rfl; have hzfgx2 := blk_frozen (Inv.blk HI6.out (i := 1) rfl) 2))
  (try simp only [Act.put, List.setIfInBounds_toArray, List.set_cons_zero, List.set_cons_succ])
  go_cut [54] (fun v54 wc => v54 = .bool false ∧ Aside0 (Inv w wc [CRow k64 64 w ok (.slice A xs.length c) xs] [⟨gs, #[.int .i64 t, .slice A xs.length c, .int .i64 u], 54⟩]))
  case first =>
    refine cw_any (fun W1 => Inv w W1 [CRow k64 64 w okx (.slice Ax xs.length cx) xs, CRow k64 64 w ok (.slice A xs.length c) xs] [⟨gf, #[.int .i64 fs, .slice A2 n2 c2], 64⟩, ⟨gx, #[.int .i64 t, .slice Ax xs.length cx, .int .i64 ru], 54⟩, ⟨gs, #[.int .i64 t, .slice A xs.length c, .int .i64 u], 54⟩]) ?s1 ?_
    (case s1 => exact (Inv.put' (bs := [⟨gf, #[.int .i64 fs, .slice none 0 0], 64⟩, ⟨gx, #[.int .i64 t, .slice Ax xs.length cx, .int .i64 ru], 54⟩, ⟨gs, #[.int .i64 t, .slice A xs.length c, .int .i64 u], 54⟩]) (cs := #[.int .i64 fs, .slice none 0 0]) (Inv.put' (bs := [⟨gf, #[.int .i64 0, .slice none 0 0], 64⟩, ⟨gx, #[.int .i64 t, .slice Ax xs.length cx, .int .i64 ru], 54⟩, ⟨gs, #[.int .i64 t, .slice A xs.length c, .int .i64 u], 54⟩]) (cs := #[.int .i64 0, .slice none 0 0]) (Inv.put' (bs := [⟨gf, #[.int .i64 0, .slice none 0 0], 64⟩, ⟨gx, #[.int .i64 t, .slice Ax xs.length cx, .int .i64 0], 54⟩, ⟨gs, #[.int .i64 t, .slice A xs.length c, .int .i64 u], 54⟩]) (cs := #[.int .i64 t, .slice Ax xs.length cx, .int .i64 0]) (Inv.put' (bs := [⟨gf, #[.int .i64 0, .slice none 0 0], 64⟩, ⟨gx, #[.int .i64 t, .slice none 0 0, .int .i64 0], 54⟩, ⟨gs, #[.int .i64 t, .slice A xs.length c, .int .i64 u], 54⟩]) (cs := #[.int .i64 t, .slice none 0 0, .int .i64 0]) (Inv.put' (bs := [⟨gf, #[.int .i64 0, .slice none 0 0], 64⟩, ⟨gx, #[.int .i64 0, .slice none 0 0, .int .i64 0], 54⟩, ⟨gs, #[.int .i64 t, .slice A xs.length c, .int .i64 u], 54⟩]) (cs := #[.int .i64 0, .slice none 0 0, .int .i64 0]) HI6.out 1 rfl 0 (.int .i64 t) rfl rfl) 1 rfl 1 (.slice Ax xs.length cx) rfl rfl) 1 rfl 2 (.int .i64 ru) rfl rfl) 0 rfl 0 (.int .i64 fs) rfl rfl) 0 rfl 1 (.slice A2 n2 c2) rfl rfl))
    intro w9 hp
    clear hzgf0 hzfgf0 hzgf1 hzfgf1 hzgx0 hzfgx0 hzgx1 hzfgx1 hzgx2 hzfgx2
    clear HI6 hn1 hn2
    have HI := Aside0.mk hp.drew
    clear hp
    rcases HTK.out with ⟨rfl, hlen⟩ | ⟨rfl, rfl, rfl, hpos, hox⟩
    · have hp0 : decide (0 < (xs.length : Int)) = false := decide_eq_false (by omega)
      have hp1 : decide (0 < xs.length) = false := decide_eq_false (by omega)
      clear hlen HTK
      refine start_ (n := 29) (S := fun w' => w'.cell? ⟨gs, 0, none⟩ = some (.int .i64 t) ∧ w'.cell? ⟨gs, 1, none⟩ = some (.slice A xs.length c) ∧ w'.cell? ⟨gs, 2, none⟩ = some (.int .i64 u)) (ds := []) #[false, false, false, false, false, false, false, false, false, false, false, false, false, false, false, false, false, false, false, false, false, false, false, false, false, false, false, false, false] (by kernel_rfl) rfl rfl ⟨(blk_cell (Inv.blk HI.out (i := 2) rfl) 0).trans rfl, (blk_cell (Inv.blk HI.out (i := 2) rfl) 1).trans rfl, (blk_cell (Inv.blk HI.out (i := 2) rfl) 2).trans rfl⟩ (fun hHeld => ?_); refine with_tabW laws_FnSenders.tab7 laws_FnSenders.bits7 (fun HT_ HW_ => ?_)
      generalize w9.drew = w_d at HI hHeld ⊢
      refine pure_ (i := 0) (N := some 26) (v := ?_) (a' := ?_) #[true, false, false, false, false, false, false, false, false, false, false, false, false, false, false, false, false, false, false, false, false, false, false, false, false, false, false, false, false] rfl rfl (any_of HT_.out (by kernel_rfl)) (fun _ _ _ h => h) (Or.inl ⟨by rfl, ?_⟩) ?_ ?_
      rotate_left
      · intro w'
        go_simp
        with_reducible rfl
      rotate_left
      · simp only [Act.put, List.setIfInBounds_toArray, List.set_cons_zero, List.set_cons_succ, i64_w, i32_w]
        rfl
      refine pure_ (i := 1) (N := some 27) (v := ?_) (a' := ?_) #[true, true, false, false, false, false, false, false, false, false, false, false, false, false, false, false, false, false, false, false, false, false, false, false, false, false, false, false, false] rfl rfl (any_of HT_.out (by kernel_rfl)) (fun _ _ _ h => h) (Or.inl ⟨by rfl, ?_⟩) ?_ ?_
      rotate_left
      · intro w'
        go_simp
        with_reducible rfl
      rotate_left
      · simp only [Act.put, List.setIfInBounds_toArray, List.set_cons_zero, List.set_cons_succ, i64_w, i32_w]
        rfl
      refine take_ (i := 2) (N := some 28) (v := ?_) (a' := ?_) #[true, true, true, false, false, false, false, false, false, false, false, false, false, false, false, false, false, false, false, false, false, false, false, false, false, false, false, false, false] rfl rfl (take_ofW HT_.out HW_.out (by kernel_rfl)) (fun _ _ _ h => h) (Or.inl ⟨by rfl, ?_⟩) hHeld ?_ ?_
      rotate_left
      · rintro w' ⟨s0, s1, s2⟩
        go_simp
        with_reducible rfl
      rotate_left
      · simp only [Act.put, List.setIfInBounds_toArray, List.set_cons_zero, List.set_cons_succ, i64_w, i32_w]
        rfl
      refine pure_ (i := 3) (N := some 29) (v := ?_) (a' := ?_) #[true, true, true, true, false, false, false, false, false, false, false, false, false, false, false, false, false, false, false, false, false, false, false, false, false, false, false, false, false] rfl rfl (any_of HT_.out (by kernel_rfl)) (fun _ _ _ h => h) (Or.inl ⟨by rfl, ?_⟩) ?_ ?_
      rotate_left
      · intro w'
        go_simp
        with_reducible rfl
      rotate_left
      · simp only [Act.put, List.setIfInBounds_toArray, List.set_cons_zero, List.set_cons_succ, i64_w, i32_w]
        rfl
      refine pure_ (i := 4) (N := some 30) (v := ?_) (a' := ?_) #[true, true, true, true, true, false, false, false, false, false, false, false, false, false, false, false, false, false, false, false, false, false, false, false, false, false, false, false, false] rfl rfl (any_of HT_.out (by kernel_rfl)) (fun _ _ _ h => h) (Or.inl ⟨by rfl, ?_⟩) ?_ ?_
      rotate_left
      · intro w'
        go_simp
        with_reducible rfl
      rotate_left
      · simp only [Act.put, List.setIfInBounds_toArray, List.set_cons_zero, List.set_cons_succ, i64_w, i32_w]
        rfl
      refine pure_ (i := 5) (N := some 31) (v := ?_) (a' := ?_) #[true, true, true, true, true, true, false, false, false, false, false, false, false, false, false, false, false, false, false, false, false, false, false, false, false, false, false, false, false] rfl rfl (any_of HT_.out (by kernel_rfl)) (fun _ _ _ h => h) (Or.inl ⟨by rfl, ?_⟩) ?_ ?_
      rotate_left
      · intro w'
        go_simp
        with_reducible rfl
      rotate_left
      · simp only [Act.put, List.setIfInBounds_toArray, List.set_cons_zero, List.set_cons_succ, i64_w, i32_w]
        rfl
      refine pure_ (i := 6) (N := some 32) (v := ?_) (a' := ?_) #[true, true, true, true, true, true, true, false, false, false, false, false, false, false, false, false, false, false, false, false, false, false, false, false, false, false, false, false, false] rfl rfl (any_of HT_.out (by kernel_rfl)) (fun _ _ _ h => h) (Or.inl ⟨by rfl, ?_⟩) ?_ ?_
      rotate_left
      · intro w'
        go_simp
        with_reducible rfl
      rotate_left
      · simp only [Act.put, List.setIfInBounds_toArray, List.set_cons_zero, List.set_cons_succ, i64_w, i32_w]
        rfl
      refine pure_ (i := 7) (N := some 33) (v := ?_) (a' := ?_) #[true, true, true, true, true, true, true, true, false, false, false, false, false, false, false, false, false, false, false, false, false, false, false, false, false, false, false, false, false] rfl rfl (any_of HT_.out (by kernel_rfl)) (fun _ _ _ h => h) (Or.inl ⟨by rfl, ?_⟩) ?_ ?_
      rotate_left
      · intro w'
        go_simp
        with_reducible rfl
      rotate_left
      · simp only [Act.put, List.setIfInBounds_toArray, List.set_cons_zero, List.set_cons_succ, i64_w, i32_w]
        rfl
      refine pure_ (i := 8) (N := some 34) (v := ?_) (a' := ?_) #[true, true, true, true, true, true, true, true, true, false, false, false, false, false, false, false, false, false, false, false, false, false, false, false, false, false, false, false, false] rfl rfl (any_of HT_.out (by kernel_rfl)) (fun _ _ _ h => h) (Or.inl ⟨by rfl, ?_⟩) ?_ ?_
      rotate_left
      · intro w'
        go_simp
        with_reducible rfl
      rotate_left
      · simp only [Act.put, List.setIfInBounds_toArray, List.set_cons_zero, List.set_cons_succ, i64_w, i32_w]
        rfl
      refine pure_ (i := 9) (N := some 35) (v := undef) (a' := ?_) #[true, true, true, true, true, true, true, true, true, true, false, false, false, false, false, false, false, false, false, false, false, false, false, false, false, false, false, false, false] rfl rfl (any_of HT_.out (by kernel_rfl)) (fun _ _ _ h => h) (Or.inr ⟨by rfl, rfl⟩) ?_ ?_
      rotate_left
      · simp only [Act.put, List.setIfInBounds_toArray, List.set_cons_zero, List.set_cons_succ, i64_w, i32_w]
        rfl
      refine pure_ (i := 10) (N := some 36) (v := undef) (a' := ?_) #[true, true, true, true, true, true, true, true, true, true, true, false, false, false, false, false, false, false, false, false, false, false, false, false, false, false, false, false, false] rfl rfl (any_of HT_.out (by kernel_rfl)) (fun _ _ _ h => h) (Or.inr ⟨by rfl, rfl⟩) ?_ ?_
      rotate_left
      · simp only [Act.put, List.setIfInBounds_toArray, List.set_cons_zero, List.set_cons_succ, i64_w, i32_w]
        rfl
      refine pure_ (i := 11) (N := some 37) (v := undef) (a' := ?_) #[true, true, true, true, true, true, true, true, true, true, true, true, false, false, false, false, false, false, false, false, false, false, false, false, false, false, false, false, false] rfl rfl (any_of HT_.out (by kernel_rfl)) (fun _ _ _ h => h) (Or.inr ⟨by rfl, rfl⟩) ?_ ?_
      rotate_left
      · simp only [Act.put, List.setIfInBounds_toArray, List.set_cons_zero, List.set_cons_succ, i64_w, i32_w]
        rfl
      refine pure_ (i := 12) (N := some 38) (v := undef) (a' := ?_) #[true, true, true, true, true, true, true, true, true, true, true, true, true, false, false, false, false, false, false, false, false, false, false, false, false, false, false, false, false] rfl rfl (any_of HT_.out (by kernel_rfl)) (fun _ _ _ h => h) (Or.inr ⟨by rfl, rfl⟩) ?_ ?_
      rotate_left
      · simp only [Act.put, List.setIfInBounds_toArray, List.set_cons_zero, List.set_cons_succ, i64_w, i32_w]
        rfl
      refine pure_ (i := 13) (N := some 39) (v := undef) (a' := ?_) #[true, true, true, true, true, true, true, true, true, true, true, true, true, true, false, false, false, false, false, false, false, false, false, false, false, false, false, false, false] rfl rfl (any_of HT_.out (by kernel_rfl)) (fun _ _ _ h => h) (Or.inr ⟨by rfl, rfl⟩) ?_ ?_
      rotate_left
      · simp only [Act.put, List.setIfInBounds_toArray, List.set_cons_zero, List.set_cons_succ, i64_w, i32_w]
        rfl
      refine pure_ (i := 14) (N := some 40) (v := undef) (a' := ?_) #[true, true, true, true, true, true, true, true, true, true, true, true, true, true, true, false, false, false, false, false, false, false, false, false, false, false, false, false, false] rfl rfl (any_of HT_.out (by kernel_rfl)) (fun _ _ _ h => h) (Or.inr ⟨by rfl, rfl⟩) ?_ ?_
      rotate_left
      · simp only [Act.put, List.setIfInBounds_toArray, List.set_cons_zero, List.set_cons_succ, i64_w, i32_w]
        rfl
      refine pure_ (i := 15) (N := some 41) (v := undef) (a' := ?_) #[true, true, true, true, true, true, true, true, true, true, true, true, true, true, true, true, false, false, false, false, false, false, false, false, false, false, false, false, false] rfl rfl (any_of HT_.out (by kernel_rfl)) (fun _ _ _ h => h) (Or.inr ⟨by rfl, rfl⟩) ?_ ?_
      rotate_left
      · simp only [Act.put, List.setIfInBounds_toArray, List.set_cons_zero, List.set_cons_succ, i64_w, i32_w]
        rfl
      refine pure_ (i := 16) (N := some 42) (v := undef) (a' := ?_) #[true, true, true, true, true, true, true, true, true, true, true, true, true, true, true, true, true, false, false, false, false, false, false, false, false, false, false, false, false] rfl rfl (any_of HT_.out (by kernel_rfl)) (fun _ _ _ h => h) (Or.inr ⟨by rfl, rfl⟩) ?_ ?_
      rotate_left
      · simp only [Act.put, List.setIfInBounds_toArray, List.set_cons_zero, List.set_cons_succ, i64_w, i32_w]
        rfl
      refine pure_ (i := 17) (N := some 43) (v := undef) (a' := ?_) #[true, true, true, true, true, true, true, true, true, true, true, true, true, true, true, true, true, true, false, false, false, false, false, false, false, false, false, false, false] rfl rfl (any_of HT_.out (by kernel_rfl)) (fun _ _ _ h => h) (Or.inr ⟨by rfl, rfl⟩) ?_ ?_
      rotate_left
      · simp only [Act.put, List.setIfInBounds_toArray, List.set_cons_zero, List.set_cons_succ, i64_w, i32_w]
        rfl
      refine pure_ (i := 18) (N := some 44) (v := undef) (a' := ?_) #[true, true, true, true, true, true, true, true, true, true, true, true, true, true, true, true, true, true, true, false, false, false, false, false, false, false, false, false, false] rfl rfl (any_of HT_.out (by kernel_rfl)) (fun _ _ _ h => h) (Or.inr ⟨by rfl, rfl⟩) ?_ ?_
      rotate_left
      · simp only [Act.put, List.setIfInBounds_toArray, List.set_cons_zero, List.set_cons_succ, i64_w, i32_w]
        rfl
      refine pure_ (i := 19) (N := some 45) (v := undef) (a' := ?_) #[true, true, true, true, true, true, true, true, true, true, true, true, true, true, true, true, true, true, true, true, false, false, false, false, false, false, false, false, false] rfl rfl (any_of HT_.out (by kernel_rfl)) (fun _ _ _ h => h) (Or.inr ⟨by rfl, rfl⟩) ?_ ?_
      rotate_left
      · simp only [Act.put, List.setIfInBounds_toArray, List.set_cons_zero, List.set_cons_succ, i64_w, i32_w]
        rfl
      refine pure_ (i := 20) (N := some 46) (v := undef) (a' := ?_) #[true, true, true, true, true, true, true, true, true, true, true, true, true, true, true, true, true, true, true, true, true, false, false, false, false, false, false, false, false] rfl rfl (any_of HT_.out (by kernel_rfl)) (fun _ _ _ h => h) (Or.inr ⟨by rfl, rfl⟩) ?_ ?_
      rotate_left
      · simp only [Act.put, List.setIfInBounds_toArray, List.set_cons_zero, List.set_cons_succ, i64_w, i32_w]
        rfl
      refine pure_ (i := 21) (N := some 47) (v := undef) (a' := ?_) #[true, true, true, true, true, true, true, true, true, true, true, true, true, true, true, true, true, true, true, true, true, true, false, false, false, false, false, false, false] rfl rfl (any_of HT_.out (by kernel_rfl)) (fun _ _ _ h => h) (Or.inr ⟨by rfl, rfl⟩) ?_ ?_
      rotate_left
      · simp only [Act.put, List.setIfInBounds_toArray, List.set_cons_zero, List.set_cons_succ, i64_w, i32_w]
        rfl
      refine pure_ (i := 22) (N := some 48) (v := undef) (a' := ?_) #[true, true, true, true, true, true, true, true, true, true, true, true, true, true, true, true, true, true, true, true, true, true, true, false, false, false, false, false, false] rfl rfl (any_of HT_.out (by kernel_rfl)) (fun _ _ _ h => h) (Or.inr ⟨by rfl, rfl⟩) ?_ ?_
      rotate_left
      · simp only [Act.put, List.setIfInBounds_toArray, List.set_cons_zero, List.set_cons_succ, i64_w, i32_w]
        rfl
      refine pure_ (i := 23) (N := some 49) (v := undef) (a' := ?_) #[true, true, true, true, true, true, true, true, true, true, true, true, true, true, true, true, true, true, true, true, true, true, true, true, false, false, false, false, false] rfl rfl (any_of HT_.out (by kernel_rfl)) (fun _ _ _ h => h) (Or.inr ⟨by rfl, rfl⟩) ?_ ?_
      rotate_left
      · simp only [Act.put, List.setIfInBounds_toArray, List.set_cons_zero, List.set_cons_succ, i64_w, i32_w]
        rfl
      refine pure_ (i := 24) (N := some 50) (v := undef) (a' := ?_) #[true, true, true, true, true, true, true, true, true, true, true, true, true, true, true, true, true, true, true, true, true, true, true, true, true, false, false, false, false] rfl rfl (any_of HT_.out (by kernel_rfl)) (fun _ _ _ h => h) (Or.inr ⟨by rfl, rfl⟩) ?_ ?_
      rotate_left
      · simp only [Act.put, List.setIfInBounds_toArray, List.set_cons_zero, List.set_cons_succ, i64_w, i32_w]
        rfl
      refine pure_ (i := 25) (N := some 51) (v := undef) (a' := ?_) #[true, true, true, true, true, true, true, true, true, true, true, true, true, true, true, true, true, true, true, true, true, true, true, true, true, true, false, false, false] rfl rfl (any_of HT_.out (by kernel_rfl)) (fun _ _ _ h => h) (Or.inr ⟨by rfl, rfl⟩) ?_ ?_
      rotate_left
      · simp only [Act.put, List.setIfInBounds_toArray, List.set_cons_zero, List.set_cons_succ, i64_w, i32_w]
        rfl
      refine pure_ (i := 26) (N := some 52) (v := undef) (a' := ?_) #[true, true, true, true, true, true, true, true, true, true, true, true, true, true, true, true, true, true, true, true, true, true, true, true, true, true, true, false, false] rfl rfl (any_of HT_.out (by kernel_rfl)) (fun _ _ _ h => h) (Or.inr ⟨by rfl, rfl⟩) ?_ ?_
      rotate_left
      · simp only [Act.put, List.setIfInBounds_toArray, List.set_cons_zero, List.set_cons_succ, i64_w, i32_w]
        rfl
      refine pure_ (i := 27) (N := some 53) (v := ?_) (a' := ?_) #[true, true, true, true, true, true, true, true, true, true, true, true, true, true, true, true, true, true, true, true, true, true, true, true, true, true, true, true, false] rfl rfl (any_of HT_.out (by kernel_rfl)) (fun _ _ _ h => h) (Or.inl ⟨by rfl, ?_⟩) ?_ ?_
      rotate_left
      · intro w'
        go_simp
        with_reducible rfl
      rotate_left
      · simp only [Act.put, List.setIfInBounds_toArray, List.set_cons_zero, List.set_cons_succ, i64_w, i32_w]
        rfl
      refine pure_ (i := 28) (N := some 54) (v := ?_) (a' := ?_) #[true, true, true, true, true, true, true, true, true, true, true, true, true, true, true, true, true, true, true, true, true, true, true, true, true, true, true, true, true] rfl rfl (any_of HT_.out (by kernel_rfl)) (fun _ _ _ h => h) (Or.inl ⟨by rfl, ?_⟩) ?_ ?_
      rotate_left
      · intro w'
        go_simp
        with_reducible rfl
      rotate_left
      · simp only [Act.put, List.setIfInBounds_toArray, List.set_cons_zero, List.set_cons_succ, i64_w, i32_w]
        rfl
      refine done_ (done_of HT_.out (by kernel_rfl)) ?_
      try go_wp2
      go_meet
      case rel => exact ⟨rfl, ⟨HI.out.drop.swap.dropbox |> fun h => HI.out.drop.dropbox.dropbox⟩⟩
    · have hp0 : decide (0 < (xs.length : Int)) = true := decide_eq_true (by omega)
      have hp1 : decide (0 < xs.length) = true := decide_eq_true hpos
      have HX1 := Aside0.mk hox
      clear hox HTK
      obtain ⟨ad, A1, c1, e7, hx0, _⟩ := at_T64 (Kd.Q_reads' (Inv.atQ HI.out (i := 1) rfl)).2.2 0 (by omega) (show (0 : Int) < (xs.length : Int) by omega)
      cases e7
      rw [show ((0 : Int)).toNat * 2 = 0 from rfl, Addr.add_zero'] at hx0
      have HX := Aside0.mk hx0
      clear hx0
      have p7 : (0 < xs.length) = True := eq_true hpos
      have q7 : (0 < (xs.length : Int)) = True := eq_true (by omega)
      clear hpos
      refine start_ (n := 29) (S := fun w' => w'.cell? ⟨gs, 0, none⟩ = some (.int .i64 t) ∧ w'.cell? ⟨gs, 1, none⟩ = some (.slice (some ad) xs.length c) ∧ w'.cell? ⟨gs, 2, none⟩ = some (.int .i64 u) ∧ w'.cell? ⟨gf, 0, none⟩ = some (.int .i64 (rd_T64 xs 0).f0) ∧ w'.cell? ⟨gx, 0, none⟩ = some (.int .i64 t) ∧ w'.cell? ⟨gx, 1, none⟩ = some (.slice Ax xs.length cx) ∧ w'.cell? ⟨gx, 2, none⟩ = some (.int .i64 1) ∧ w'.cell? ad = some (.int .i64 (rd_T64 xs 0).f0)) (ds := []) #[false, false, false, false, false, false, false, false, false, false, false, false, false, false, false, false, false, false, false, false, false, false, false, false, false, false, false, false, false] (by kernel_rfl) rfl rfl ⟨(blk_cell (Inv.blk HI.out (i := 2) rfl) 0).trans rfl, (blk_cell (Inv.blk HI.out (i := 2) rfl) 1).trans rfl, (blk_cell (Inv.blk HI.out (i := 2) rfl) 2).trans rfl, (blk_cell (Inv.blk HI.out (i := 0) rfl) 0).trans rfl, (blk_cell (Inv.blk HI.out (i := 1) rfl) 0).trans rfl, (blk_cell (Inv.blk HI.out (i := 1) rfl) 1).trans rfl, (blk_cell (Inv.blk HI.out (i := 1) rfl) 2).trans rfl, HX.out⟩ (fun hHeld => ?_); refine with_tabW laws_FnSenders.tab7 laws_FnSenders.bits7 (fun HT_ HW_ => ?_)
      generalize w9.drew = w_d at HI HX hHeld ⊢
      refine pure_ (i := 0) (N := some 26) (v := ?_) (a' := ?_) #[true, false, false, false, false, false, false, false, false, false, false, false, false, false, false, false, false, false, false, false, false, false, false, false, false, false, false, false, false] rfl rfl (any_of HT_.out (by kernel_rfl)) (fun _ _ _ h => h) (Or.inl ⟨by rfl, ?_⟩) ?_ ?_
      rotate_left
      · intro w'
        go_simp
        with_reducible rfl
      rotate_left
      · simp only [Act.put, List.setIfInBounds_toArray, List.set_cons_zero, List.set_cons_succ, i64_w, i32_w]
        rfl
      refine pure_ (i := 1) (N := some 27) (v := ?_) (a' := ?_) #[true, true, false, false, false, false, false, false, false, false, false, false, false, false, false, false, false, false, false, false, false, false, false, false, false, false, false, false, false] rfl rfl (any_of HT_.out (by kernel_rfl)) (fun _ _ _ h => h) (Or.inl ⟨by rfl, ?_⟩) ?_ ?_
      rotate_left
      · intro w'
        go_simp
        with_reducible rfl
      rotate_left
      · simp only [Act.put, List.setIfInBounds_toArray, List.set_cons_zero, List.set_cons_succ, i64_w, i32_w]
        rfl
      refine take_ (i := 2) (N := some 28) (v := ?_) (a' := ?_) #[true, true, true, false, false, false, false, false, false, false, false, false, false, false, false, false, false, false, false, false, false, false, false, false, false, false, false, false, false] rfl rfl (take_ofW HT_.out HW_.out (by kernel_rfl)) (fun _ _ _ h => h) (Or.inl ⟨by rfl, ?_⟩) hHeld ?_ ?_
      rotate_left
      · rintro w' ⟨s0, s1, s2, s3, s4, s5, s6, s7⟩
        go_simp
        with_reducible rfl
      rotate_left
      · simp only [Act.put, List.setIfInBounds_toArray, List.set_cons_zero, List.set_cons_succ, i64_w, i32_w]
        rfl
      refine pure_ (i := 3) (N := some 29) (v := ?_) (a' := ?_) #[true, true, true, true, false, false, false, false, false, false, false, false, false, false, false, false, false, false, false, false, false, false, false, false, false, false, false, false, false] rfl rfl (any_of HT_.out (by kernel_rfl)) (fun _ _ _ h => h) (Or.inl ⟨by rfl, ?_⟩) ?_ ?_
      rotate_left
      · intro w'
        go_simp
        with_reducible rfl
      rotate_left
      · simp only [Act.put, List.setIfInBounds_toArray, List.set_cons_zero, List.set_cons_succ, i64_w, i32_w]
        rfl
      refine pure_ (i := 4) (N := some 30) (v := ?_) (a' := ?_) #[true, true, true, true, true, false, false, false, false, false, false, false, false, false, false, false, false, false, false, false, false, false, false, false, false, false, false, false, false] rfl rfl (any_of HT_.out (by kernel_rfl)) (fun _ _ _ h => h) (Or.inl ⟨by rfl, ?_⟩) ?_ ?_
      rotate_left
      · intro w'
        go_simp
        with_reducible rfl
      rotate_left
      · simp only [Act.put, List.setIfInBounds_toArray, List.set_cons_zero, List.set_cons_succ, i64_w, i32_w]
        rfl
      refine pure_ (i := 5) (N := some 31) (v := ?_) (a' := ?_) #[true, true, true, true, true, true, false, false, false, false, false, false, false, false, false, false, false, false, false, false, false, false, false, false, false, false, false, false, false] rfl rfl (any_of HT_.out (by kernel_rfl)) (fun _ _ _ h => h) (Or.inl ⟨by rfl, ?_⟩) ?_ ?_
      rotate_left
      · intro w'
        go_simp
        with_reducible rfl
      rotate_left
      · simp only [Act.put, List.setIfInBounds_toArray, List.set_cons_zero, List.set_cons_succ, i64_w, i32_w]
        rfl
      refine pure_ (i := 6) (N := some 32) (v := ?_) (a' := ?_) #[true, true, true, true, true, true, true, false, false, false, false, false, false, false, false, false, false, false, false, false, false, false, false, false, false, false, false, false, false] rfl rfl (any_of HT_.out (by kernel_rfl)) (fun _ _ _ h => h) (Or.inl ⟨by rfl, ?_⟩) ?_ ?_
      rotate_left
      · intro w'
        go_simp
        with_reducible rfl
      rotate_left
      · simp only [Act.put, List.setIfInBounds_toArray, List.set_cons_zero, List.set_cons_succ, i64_w, i32_w]
        rfl
      refine pure_ (i := 7) (N := some 33) (v := ?_) (a' := ?_) #[true, true, true, true, true, true, true, true, false, false, false, false, false, false, false, false, false, false, false, false, false, false, false, false, false, false, false, false, false] rfl rfl (any_of HT_.out (by kernel_rfl)) (fun _ _ _ h => h) (Or.inl ⟨by rfl, ?_⟩) ?_ ?_
      rotate_left
      · intro w'
        go_simp
        with_reducible rfl
      rotate_left
      · simp only [Act.put, List.setIfInBounds_toArray, List.set_cons_zero, List.set_cons_succ, i64_w, i32_w]
        rfl
      refine pure_ (i := 8) (N := some 34) (v := ?_) (a' := ?_) #[true, true, true, true, true, true, true, true, true, false, false, false, false, false, false, false, false, false, false, false, false, false, false, false, false, false, false, false, false] rfl rfl (any_of HT_.out (by kernel_rfl)) (fun _ _ _ h => h) (Or.inl ⟨by rfl, ?_⟩) ?_ ?_
      rotate_left
      · intro w'
        go_simp
        with_reducible rfl
      rotate_left
      · simp only [Act.put, List.setIfInBounds_toArray, List.set_cons_zero, List.set_cons_succ, i64_w, i32_w]
        rfl
      refine pure_ (i := 9) (N := some 35) (v := ?_) (a' := ?_) #[true, true, true, true, true, true, true, true, true, true, false, false, false, false, false, false, false, false, false, false, false, false, false, false, false, false, false, false, false] rfl rfl (any_of HT_.out (by kernel_rfl)) (fun _ _ _ h => h) (Or.inl ⟨by rfl, ?_⟩) ?_ ?_
      rotate_left
      · intro w'
        go_simp
        with_reducible rfl
      rotate_left
      · simp only [Act.put, List.setIfInBounds_toArray, List.set_cons_zero, List.set_cons_succ, i64_w, i32_w]
        rfl
      refine pure_ (i := 11) (N := some 37) (v := ?_) (a' := ?_) #[true, true, true, true, true, true, true, true, true, true, false, true, false, false, false, false, false, false, false, false, false, false, false, false, false, false, false, false, false] rfl rfl (any_of HT_.out (by kernel_rfl)) (fun _ _ _ h => h) (Or.inl ⟨by rfl, ?_⟩) ?_ ?_
      rotate_left
      · intro w'
        go_simp
        with_reducible rfl
      rotate_left
      · simp only [Act.put, List.setIfInBounds_toArray, List.set_cons_zero, List.set_cons_succ, i64_w, i32_w]
        rfl
      refine take_ (i := 10) (N := some 36) (v := ?_) (a' := ?_) #[true, true, true, true, true, true, true, true, true, true, true, true, false, false, false, false, false, false, false, false, false, false, false, false, false, false, false, false, false] rfl rfl (take_ofW HT_.out HW_.out (by kernel_rfl)) (fun _ _ _ h => h) (Or.inl ⟨by rfl, ?_⟩) hHeld ?_ ?_
      rotate_left
      · rintro w' ⟨s0, s1, s2, s3, s4, s5, s6, s7⟩
        go_simp
        with_reducible rfl
      rotate_left
      · simp only [Act.put, List.setIfInBounds_toArray, List.set_cons_zero, List.set_cons_succ, i64_w, i32_w]
        rfl
      refine take_ (i := 12) (N := some 38) (v := ?_) (a' := ?_) #[true, true, true, true, true, true, true, true, true, true, true, true, true, false, false, false, false, false, false, false, false, false, false, false, false, false, false, false, false] rfl rfl (take_ofW HT_.out HW_.out (by kernel_rfl)) (fun _ _ _ h => h) (Or.inl ⟨by rfl, ?_⟩) hHeld ?_ ?_
      rotate_left
      · rintro w' ⟨s0, s1, s2, s3, s4, s5, s6, s7⟩
        go_simp
        with_reducible rfl
      rotate_left
      · simp only [Act.put, List.setIfInBounds_toArray, List.set_cons_zero, List.set_cons_succ, i64_w, i32_w]
        rfl
      refine pure_ (i := 13) (N := some 39) (v := ?_) (a' := ?_) #[true, true, true, true, true, true, true, true, true, true, true, true, true, true, false, false, false, false, false, false, false, false, false, false, false, false, false, false, false] rfl rfl (any_of HT_.out (by kernel_rfl)) (fun _ _ _ h => h) (Or.inl ⟨by rfl, ?_⟩) ?_ ?_
      rotate_left
      · intro w'
        go_simp
        with_reducible rfl
      rotate_left
      · simp only [Act.put, List.setIfInBounds_toArray, List.set_cons_zero, List.set_cons_succ, i64_w, i32_w]
        rfl
      refine pure_ (i := 14) (N := some 40) (v := ?_) (a' := ?_) #[true, true, true, true, true, true, true, true, true, true, true, true, true, true, true, false, false, false, false, false, false, false, false, false, false, false, false, false, false] rfl rfl (any_of HT_.out (by kernel_rfl)) (fun _ _ _ h => h) (Or.inl ⟨by rfl, ?_⟩) ?_ ?_
      rotate_left
      · intro w'
        go_simp
        with_reducible rfl
      rotate_left
      · simp only [Act.put, List.setIfInBounds_toArray, List.set_cons_zero, List.set_cons_succ, i64_w, i32_w]
        rfl
      refine take_ (i := 15) (N := some 41) (v := ?_) (a' := ?_) #[true, true, true, true, true, true, true, true, true, true, true, true, true, true, true, true, false, false, false, false, false, false, false, false, false, false, false, false, false] rfl rfl (take_ofW HT_.out HW_.out (by kernel_rfl)) (fun _ _ _ h => h) (Or.inl ⟨by rfl, ?_⟩) hHeld ?_ ?_
      rotate_left
      · rintro w' ⟨s0, s1, s2, s3, s4, s5, s6, s7⟩
        go_simp
        with_reducible rfl
      rotate_left
      · simp only [Act.put, List.setIfInBounds_toArray, List.set_cons_zero, List.set_cons_succ, i64_w, i32_w]
        rfl
      refine pure_ (i := 16) (N := some 42) (v := ?_) (a' := ?_) #[true, true, true, true, true, true, true, true, true, true, true, true, true, true, true, true, true, false, false, false, false, false, false, false, false, false, false, false, false] rfl rfl (any_of HT_.out (by kernel_rfl)) (fun _ _ _ h => h) (Or.inl ⟨by rfl, ?_⟩) ?_ ?_
      rotate_left
      · intro w'
        go_simp
        with_reducible rfl
      rotate_left
      · simp only [Act.put, List.setIfInBounds_toArray, List.set_cons_zero, List.set_cons_succ, i64_w, i32_w]
        rfl
      refine pure_ (i := 17) (N := some 43) (v := ?_) (a' := ?_) #[true, true, true, true, true, true, true, true, true, true, true, true, true, true, true, true, true, true, false, false, false, false, false, false, false, false, false, false, false] rfl rfl (any_of HT_.out (by kernel_rfl)) (fun _ _ _ h => h) (Or.inl ⟨by rfl, ?_⟩) ?_ ?_
      rotate_left
      · intro w'
        go_simp
        with_reducible rfl
      rotate_left
      · simp only [Act.put, List.setIfInBounds_toArray, List.set_cons_zero, List.set_cons_succ, i64_w, i32_w]
        rfl
      refine pure_ (i := 18) (N := some 44) (v := ?_) (a' := ?_) #[true, true, true, true, true, true, true, true, true, true, true, true, true, true, true, true, true, true, true, false, false, false, false, false, false, false, false, false, false] rfl rfl (any_of HT_.out (by kernel_rfl)) (fun _ _ _ h => h) (Or.inl ⟨by rfl, ?_⟩) ?_ ?_
      rotate_left
      · intro w'
        go_simp
        with_reducible rfl
      rotate_left
      · simp only [Act.put, List.setIfInBounds_toArray, List.set_cons_zero, List.set_cons_succ, i64_w, i32_w]
        rfl
      refine take_ (i := 19) (N := some 45) (v := ?_) (a' := ?_) #[true, true, true, true, true, true, true, true, true, true, true, true, true, true, true, true, true, true, true, true, false, false, false, false, false, false, false, false, false] rfl rfl (take_ofW HT_.out HW_.out (by kernel_rfl)) (fun _ _ _ h => h) (Or.inl ⟨by rfl, ?_⟩) hHeld ?_ ?_
      rotate_left
      · rintro w' ⟨s0, s1, s2, s3, s4, s5, s6, s7⟩
        go_simp
        with_reducible rfl
      rotate_left
      · simp only [Act.put, List.setIfInBounds_toArray, List.set_cons_zero, List.set_cons_succ, i64_w, i32_w]
        rfl
      refine pure_ (i := 20) (N := some 46) (v := ?_) (a' := ?_) #[true, true, true, true, true, true, true, true, true, true, true, true, true, true, true, true, true, true, true, true, true, false, false, false, false, false, false, false, false] rfl rfl (any_of HT_.out (by kernel_rfl)) (fun _ _ _ h => h) (Or.inl ⟨by rfl, ?_⟩) ?_ ?_
      rotate_left
      · intro w'
        go_simp
        with_reducible rfl
      rotate_left
      · simp only [Act.put, List.setIfInBounds_toArray, List.set_cons_zero, List.set_cons_succ, i64_w, i32_w]
        rfl
      refine pure_ (i := 21) (N := some 47) (v := ?_) (a' := ?_) #[true, true, true, true, true, true, true, true, true, true, true, true, true, true, true, true, true, true, true, true, true, true, false, false, false, false, false, false, false] rfl rfl (any_of HT_.out (by kernel_rfl)) (fun _ _ _ h => h) (Or.inl ⟨by rfl, ?_⟩) ?_ ?_
      rotate_left
      · intro w'
        go_simp
        with_reducible rfl
      rotate_left
      · simp only [Act.put, List.setIfInBounds_toArray, List.set_cons_zero, List.set_cons_succ, i64_w, i32_w]
        rfl
      refine pure_ (i := 22) (N := some 48) (v := ?_) (a' := ?_) #[true, true, true, true, true, true, true, true, true, true, true, true, true, true, true, true, true, true, true, true, true, true, true, false, false, false, false, false, false] rfl rfl (any_of HT_.out (by kernel_rfl)) (fun _ _ _ h => h) (Or.inl ⟨by rfl, ?_⟩) ?_ ?_
      rotate_left
      · intro w'
        go_simp
        with_reducible rfl
      rotate_left
      · simp only [Act.put, List.setIfInBounds_toArray, List.set_cons_zero, List.set_cons_succ, i64_w, i32_w]
        rfl
      refine take_ (i := 23) (N := some 49) (v := ?_) (a' := ?_) #[true, true, true, true, true, true, true, true, true, true, true, true, true, true, true, true, true, true, true, true, true, true, true, true, false, false, false, false, false] rfl rfl (take_ofW HT_.out HW_.out (by kernel_rfl)) (fun _ _ _ h => h) (Or.inl ⟨by rfl, ?_⟩) hHeld ?_ ?_
      rotate_left
      · rintro w' ⟨s0, s1, s2, s3, s4, s5, s6, s7⟩
        go_simp
        with_reducible rfl
      rotate_left
      · simp only [Act.put, List.setIfInBounds_toArray, List.set_cons_zero, List.set_cons_succ, i64_w, i32_w]
        rfl
      refine one_ (i := 24) (N := some 50) #[true, true, true, true, true, true, true, true, true, true, true, true, true, true, true, true, true, true, true, true, true, true, true, true, true, false, false, false, false] rfl rfl (one_of HT_.out (by kernel_rfl)) (by decide) (fun K hK => ?_)
      refine goes_ Try.func36 (by kernel_rfl) rfl #[.agg #[.int .i64 t, .slice Ax xs.length cx, .int .i64 1]] (by rfl) rfl rfl (by (try simp only [List.map_toArray, List.map_cons, List.map_nil]); first | done | rfl | (simp only [List.length_drop, List.length_take]; rfl)) ?_
      refine (ok_iv HI.out 0 rfl HX1.out).mono ?_
      rintro e w10 ⟨rfl, hi, hb⟩
      have hx1 := (hb.cell (World.block_lt_of_cell? _ _ HX.out)).trans HX.out
      refine ⟨_, rfl, ?_⟩
      clear HI HX hb
      have HI := Aside0.mk hi
      have HX := Aside0.mk hx1
      clear hi hx1
      refine hK.out _ _ ⟨(blk_cell (Inv.blk HI.out (i := 2) rfl) 0).trans rfl, (blk_cell (Inv.blk HI.out (i := 2) rfl) 1).trans rfl, (blk_cell (Inv.blk HI.out (i := 2) rfl) 2).trans rfl, (blk_cell (Inv.blk HI.out (i := 0) rfl) 0).trans rfl, (blk_cell (Inv.blk HI.out (i := 1) rfl) 0).trans rfl, (blk_cell (Inv.blk HI.out (i := 1) rfl) 1).trans rfl, (blk_cell (Inv.blk HI.out (i := 1) rfl) 2).trans rfl, HX.out⟩ (fun hHeld => ?_)
      clear hK K
      refine norm_ (a' := ?_) ?_ ?_
      rotate_left
      · show Act.put _ (some 50) _ = _
        simp only [Act.put, List.setIfInBounds_toArray, List.set_cons_zero, List.set_cons_succ, i64_w, i32_w]
        rfl
      refine pure_ (i := 25) (N := some 51) (v := ?_) (a' := ?_) #[true, true, true, true, true, true, true, true, true, true, true, true, true, true, true, true, true, true, true, true, true, true, true, true, true, true, false, false, false] rfl rfl (any_of HT_.out (by kernel_rfl)) (fun _ _ _ h => h) (Or.inl ⟨by rfl, ?_⟩) ?_ ?_
      rotate_left
      · intro w'
        go_simp
        with_reducible rfl
      rotate_left
      · simp only [Act.put, List.setIfInBounds_toArray, List.set_cons_zero, List.set_cons_succ, i64_w, i32_w]
        rfl
      refine pure_ (i := 26) (N := some 52) (v := ?_) (a' := ?_) #[true, true, true, true, true, true, true, true, true, true, true, true, true, true, true, true, true, true, true, true, true, true, true, true, true, true, true, false, false] rfl rfl (any_of HT_.out (by kernel_rfl)) (fun _ _ _ h => h) (Or.inl ⟨by rfl, ?_⟩) ?_ ?_
      rotate_left
      · intro w'
        go_simp
        with_reducible rfl
      rotate_left
      · simp only [Act.put, List.setIfInBounds_toArray, List.set_cons_zero, List.set_cons_succ, i64_w, i32_w]
        rfl
      refine pure_ (i := 27) (N := some 53) (v := ?_) (a' := ?_) #[true, true, true, true, true, true, true, true, true, true, true, true, true, true, true, true, true, true, true, true, true, true, true, true, true, true, true, true, false] rfl rfl (any_of HT_.out (by kernel_rfl)) (fun _ _ _ h => h) (Or.inl ⟨by rfl, ?_⟩) ?_ ?_
      rotate_left
      · intro w'
        go_simp
        with_reducible rfl
      rotate_left
      · simp only [Act.put, List.setIfInBounds_toArray, List.set_cons_zero, List.set_cons_succ, i64_w, i32_w]
        rfl
      refine pure_ (i := 28) (N := some 54) (v := ?_) (a' := ?_) #[true, true, true, true, true, true, true, true, true, true, true, true, true, true, true, true, true, true, true, true, true, true, true, true, true, true, true, true, true] rfl rfl (any_of HT_.out (by kernel_rfl)) (fun _ _ _ h => h) (Or.inl ⟨by rfl, ?_⟩) ?_ ?_
      rotate_left
      · intro w'
        go_simp
        with_reducible rfl
      rotate_left
      · simp only [Act.put, List.setIfInBounds_toArray, List.set_cons_zero, List.set_cons_succ, i64_w, i32_w]
        rfl
      refine done_ (done_of HT_.out (by kernel_rfl)) ?_
      try go_wp2
      go_meet
      case rel => exact ⟨rfl, ⟨HI.out.drop.dropbox.dropbox⟩⟩
  case rest =>
    clear hzgf0 hzfgf0 hzgf1 hzfgf1 hzgx0 hzfgx0 hzgx1 hzfgx1 hzgx2 hzfgx2
    clear HI6 hn1 hn2 HTK
    obtain ⟨rfl, HI⟩ := hcut
    have hzgs0 : wc.cell? ⟨gs, 0, none⟩ = some (.int .i64 t) := (blk_cell (Inv.blk HI.out (i := 0) rfl) 0).trans rfl
    have hzgs1 : wc.cell? ⟨gs, 1, none⟩ = some (.slice A xs.length c) := (blk_cell (Inv.blk HI.out (i := 0) rfl) 1).trans rfl
    have hzgs2 : wc.cell? ⟨gs, 2, none⟩ = some (.int .i64 u) := (blk_cell (Inv.blk HI.out (i := 0) rfl) 2).trans rfl
    go_wp2_with (first
      | ((with_reducible refine gate_dst (N := 57) rfl ?_); refine Kd.R_lit (Kd.int .i64) _ 3 ?hg (N := 57) ?hd (xs := ([1, 2] : List Int)) (inner := [.int .i64 1, .int .i64 2]) (ok := fun _ => True) (okp := fun _ => True) ?hr ?hp (fun _ hk => hk) trivial (Below.refl _ _) (Nat.le_refl _) (by simp) ?_; (case hd => rfl); (case hg => rfl); (case hr => first | (go_simp; done) | (go_simp; rfl)); (case hp => exact (Reps.one (show Kd.M (Kd.int .i64) _ _ _ (1) [.int .i64 (1)] from rfl) (Reps.one (show Kd.M (Kd.int .i64) _ _ _ (2) [.int .i64 (2)] from rfl) (Reps.none _ _)))); intro v8 w8 ho hb hg_ hnew_; clear hg_ hnew_; obtain ⟨lq, hlq⟩ : ∃ l : List Int, l = [1, 2] := ⟨_, rfl⟩; rw [← hlq] at ho; have HLQ := Aside0.mk (show okB lq = true by rw [hlq]; rfl); clear hlq; obtain ⟨A1, c1, rfl⟩ := Kd.R_slice ho; have HRQ := Aside0.mk (Kd.R_reads' ho).2; have n0_ := fun h => Inv.call (w := w) (rows := [CRow k64 64 w ok (.slice A xs.length c) xs]) (bs := [⟨gs, #[.int .i64 t, .slice A xs.length c, .int .i64 u], 54⟩]) h hb; have hi := n0_ (by repeat (first | (with_reducible exact HI.out) | (with_reducible refine Inv.drewN ?_ _) | (with_reducible refine Inv.drew ?_))); clear n0_ HI ho hb; clear hzgs0 hzgs1 hzgs2; have HI := Aside0.mk hi; clear hi)
      | (go_at_call 51; refine (queue_iv (w := w) (rows := [CRow k64 64 w ok (.slice A xs.length c) xs]) (bs := [⟨gs, #[.int .i64 t, .slice A xs.length c, .int .i64 u], 54⟩]) ?s1 0 rfl HO.out HRQ.out.2 HRQ.out.1 HLQ.out).mono ?_; (case s1 => exact (by repeat (first | (with_reducible exact HI.out) | (with_reducible refine Inv.drewN ?_ _) | (with_reducible refine Inv.drew ?_)))); rintro e w9 ⟨tq, Aq, ys, cq, z, okq, rfl, hz, hi⟩; clear HI HRQ HLQ; have HI7 := Aside0.mk hi; have HZ := Aside0.mk hz; clear hi hz)
      | ((with_reducible refine gate_dst (N := 7) rfl ?_); refine box_event ?hg (N := 7) ?hd (cs := #[.int .i64 0, .slice none 0 0, .int .i64 0]) (t := 54) ?hr ?_; (case hd => rfl); (case hg => rfl); (case hr => first | (go_simp; done) | (go_simp; rfl)); intro gq hg w10 hbox hb; have n0_ := fun h => Inv.newbox (w := w) (rows := [CRow k64 64 w okq (.slice Aq ys.length cq) ys, CRow k64 64 w ok (.slice A xs.length c) xs]) (bs := [⟨gs, #[.int .i64 t, .slice A xs.length c, .int .i64 u], 54⟩]) h hb hg hbox; have HI8 := Aside0.mk (n0_ (by repeat (first | (with_reducible exact HI7.out) | (with_reducible refine Inv.drewN ?_ _) | (with_reducible refine Inv.drew ?_)))); clear n0_ hb hg hbox HI7; have hzgq0 : w10.cell? ⟨gq, 0, none⟩ = some (.int .i64 0) := (blk_cell (Inv.blk HI8.out (i := 0) rfl) 0).trans rfl; have hzfgq0 := blk_frozen (Inv.blk HI8.out (i := 0) rfl) 0; have hzgq1 : w10.cell? ⟨gq, 1, none⟩ = some (.slice none 0 0) := (blk_cell (Inv.blk HI8.out (i := 0) rfl) 1).trans rfl; have hzfgq1 := blk_frozen (Inv.blk HI8.out (i := 0) rfl) 1; have hzgq2 : w10.cell? ⟨gq, 2, none⟩ = some (.int .i64 0) := (blk_cell (Inv.blk HI8.out (i := 0) rfl) 2).trans rfl; have hzfgq2 := blk_frozen (Inv.blk HI8.out (i := 0) rfl) 2))
    refine cw_any (fun W1 => Inv w W1 [CRow k64 64 w okq (.slice Aq ys.length cq) ys, CRow k64 64 w ok (.slice A xs.length c) xs] [⟨gq, #[.int .i64 tq, .slice Aq ys.length cq, .int .i64 u], 54⟩, ⟨gs, #[.int .i64 t, .slice A xs.length c, .int .i64 u], 54⟩]) ?s1 ?_
    (case s1 => exact (Inv.put' (bs := [⟨gq, #[.int .i64 tq, .slice Aq ys.length cq, .int .i64 0], 54⟩, ⟨gs, #[.int .i64 t, .slice A xs.length c, .int .i64 u], 54⟩]) (cs := #[.int .i64 tq, .slice Aq ys.length cq, .int .i64 0]) (Inv.put' (bs := [⟨gq, #[.int .i64 tq, .slice none 0 0, .int .i64 0], 54⟩, ⟨gs, #[.int .i64 t, .slice A xs.length c, .int .i64 u], 54⟩]) (cs := #[.int .i64 tq, .slice none 0 0, .int .i64 0]) (Inv.put' (bs := [⟨gq, #[.int .i64 0, .slice none 0 0, .int .i64 0], 54⟩, ⟨gs, #[.int .i64 t, .slice A xs.length c, .int .i64 u], 54⟩]) (cs := #[.int .i64 0, .slice none 0 0, .int .i64 0]) HI8.out 0 rfl 0 (.int .i64 tq) rfl rfl) 0 rfl 1 (.slice Aq ys.length cq) rfl rfl) 0 rfl 2 (.int .i64 u) rfl rfl))
    intro w11 hp
    clear hzgq0 hzfgq0 hzgq1 hzfgq1 hzgq2 hzfgq2
    clear HI8
    have HI := Aside0.mk hp.drew
    clear hp
    have hz1 : (z != decide ((xs.length : Int) < 7)) = false := by rw [HZ.out.2.1]; simp
    have hez : decide ((xs.length : Int) < 7) = decide (xs.length < 7) := decide_eq_decide.mpr (by omega)
    have hz3 : (z != decide (xs.length < 7)) = false := by rw [HZ.out.2.1, hez]; simp
    have hz4 : (z == decide (xs.length < 7)) = true := by rw [HZ.out.2.1, hez]; simp
    have hz5 : (z == decide ((xs.length : Int) < 7)) = true := by rw [HZ.out.2.1]; simp
    have hz6 : decide (z = decide (xs.length < 7)) = true := by rw [HZ.out.2.1, hez]; simp
    clear hez
    have hz7 : decide (z = decide ((xs.length : Int) < 7)) = true := by rw [HZ.out.2.1]; simp
    obtain ⟨bt, hbt⟩ : ∃ bt, laws_btoi.f z = some bt := ⟨_, btoi_ok z⟩
    have hz2 : ((ys.length : Int) != wrap64 ((xs.length : Int) + bt)) = false := by
      have e1 := HZ.out.2.2
      have e2 := HO.out.2.1
      have e3 : bt = (if z = true then 1 else 0) := Option.some.inj (hbt.symm.trans (btoi_ok z))
      have e4 : 0 ≤ bt ∧ bt ≤ 1 := by rw [e3]; split <;> omega
      rw [← e3] at e1
      rw [Num.w64 (by omega) (by omega), e1]
      simp
    have HBT := Aside0.mk hbt
    clear hbt
    refine start_ (n := 23) (S := fun w' => w'.cell? ⟨gs, 0, none⟩ = some (.int .i64 t) ∧ w'.cell? ⟨gs, 1, none⟩ = some (.slice A xs.length c) ∧ w'.cell? ⟨gs, 2, none⟩ = some (.int .i64 u) ∧ w'.cell? ⟨gq, 0, none⟩ = some (.int .i64 tq) ∧ w'.cell? ⟨gq, 1, none⟩ = some (.slice Aq ys.length cq) ∧ w'.cell? ⟨gq, 2, none⟩ = some (.int .i64 u)) (ds := []) #[false, false, false, false, false, false, false, false, false, false, false, false, false, false, false, false, false, false, false, false, false, false, false] (by kernel_rfl) rfl rfl ⟨(blk_cell (Inv.blk HI.out (i := 1) rfl) 0).trans rfl, (blk_cell (Inv.blk HI.out (i := 1) rfl) 1).trans rfl, (blk_cell (Inv.blk HI.out (i := 1) rfl) 2).trans rfl, (blk_cell (Inv.blk HI.out (i := 0) rfl) 0).trans rfl, (blk_cell (Inv.blk HI.out (i := 0) rfl) 1).trans rfl, (blk_cell (Inv.blk HI.out (i := 0) rfl) 2).trans rfl⟩ (fun hHeld => ?_); refine with_tabW laws_FnSenders.tab10 laws_FnSenders.bits10 (fun HT_ HW_ => ?_)
    generalize w11.drew = w_d at HI hHeld ⊢
    refine pure_ (i := 0) (N := some 61) (v := ?_) (a' := ?_) #[true, false, false, false, false, false, false, false, false, false, false, false, false, false, false, false, false, false, false, false, false, false, false] rfl rfl (any_of HT_.out (by kernel_rfl)) (fun _ _ _ h => h) (Or.inl ⟨by rfl, ?_⟩) ?_ ?_
    rotate_left
    · intro w'
      go_simp
      with_reducible rfl
    rotate_left
    · simp only [Act.put, List.setIfInBounds_toArray, List.set_cons_zero, List.set_cons_succ, i64_w, i32_w]
      rfl
    refine pure_ (i := 1) (N := some 62) (v := ?_) (a' := ?_) #[true, true, false, false, false, false, false, false, false, false, false, false, false, false, false, false, false, false, false, false, false, false, false] rfl rfl (any_of HT_.out (by kernel_rfl)) (fun _ _ _ h => h) (Or.inl ⟨by rfl, ?_⟩) ?_ ?_
    rotate_left
    · intro w'
      go_simp
      with_reducible rfl
    rotate_left
    · simp only [Act.put, List.setIfInBounds_toArray, List.set_cons_zero, List.set_cons_succ, i64_w, i32_w]
      rfl
    refine take_ (i := 2) (N := some 63) (v := ?_) (a' := ?_) #[true, true, true, false, false, false, false, false, false, false, false, false, false, false, false, false, false, false, false, false, false, false, false] rfl rfl (take_ofW HT_.out HW_.out (by kernel_rfl)) (fun _ _ _ h => h) (Or.inl ⟨by rfl, ?_⟩) hHeld ?_ ?_
    rotate_left
    · rintro w' ⟨s0, s1, s2, s3, s4, s5⟩
      go_simp
      with_reducible rfl
    rotate_left
    · simp only [Act.put, List.setIfInBounds_toArray, List.set_cons_zero, List.set_cons_succ, i64_w, i32_w]
      rfl
    refine pure_ (i := 3) (N := some 64) (v := ?_) (a' := ?_) #[true, true, true, true, false, false, false, false, false, false, false, false, false, false, false, false, false, false, false, false, false, false, false] rfl rfl (any_of HT_.out (by kernel_rfl)) (fun _ _ _ h => h) (Or.inl ⟨by rfl, ?_⟩) ?_ ?_
    rotate_left
    · intro w'
      go_simp
      with_reducible rfl
    rotate_left
    · simp only [Act.put, List.setIfInBounds_toArray, List.set_cons_zero, List.set_cons_succ, i64_w, i32_w]
      rfl
    refine pure_ (i := 4) (N := some 65) (v := ?_) (a' := ?_) #[true, true, true, true, true, false, false, false, false, false, false, false, false, false, false, false, false, false, false, false, false, false, false] rfl rfl (any_of HT_.out (by kernel_rfl)) (fun _ _ _ h => h) (Or.inl ⟨by rfl, ?_⟩) ?_ ?_
    rotate_left
    · intro w'
      go_simp
      with_reducible rfl
    rotate_left
    · simp only [Act.put, List.setIfInBounds_toArray, List.set_cons_zero, List.set_cons_succ, i64_w, i32_w]
      rfl
    refine pure_ (i := 5) (N := some 66) (v := ?_) (a' := ?_) #[true, true, true, true, true, true, false, false, false, false, false, false, false, false, false, false, false, false, false, false, false, false, false] rfl rfl (any_of HT_.out (by kernel_rfl)) (fun _ _ _ h => h) (Or.inl ⟨by rfl, ?_⟩) ?_ ?_
    rotate_left
    · intro w'
      go_simp
      with_reducible rfl
    rotate_left
    · simp only [Act.put, List.setIfInBounds_toArray, List.set_cons_zero, List.set_cons_succ, i64_w, i32_w]
      rfl
    refine pure_ (i := 6) (N := some 67) (v := ?_) (a' := ?_) #[true, true, true, true, true, true, true, false, false, false, false, false, false, false, false, false, false, false, false, false, false, false, false] rfl rfl (any_of HT_.out (by kernel_rfl)) (fun _ _ _ h => h) (Or.inl ⟨by rfl, ?_⟩) ?_ ?_
    rotate_left
    · intro w'
      go_simp
      with_reducible rfl
    rotate_left
    · simp only [Act.put, List.setIfInBounds_toArray, List.set_cons_zero, List.set_cons_succ, i64_w, i32_w]
      rfl
    refine take_ (i := 7) (N := some 68) (v := ?_) (a' := ?_) #[true, true, true, true, true, true, true, true, false, false, false, false, false, false, false, false, false, false, false, false, false, false, false] rfl rfl (take_ofW HT_.out HW_.out (by kernel_rfl)) (fun _ _ _ h => h) (Or.inl ⟨by rfl, ?_⟩) hHeld ?_ ?_
    rotate_left
    · rintro w' ⟨s0, s1, s2, s3, s4, s5⟩
      go_simp
      with_reducible rfl
    rotate_left
    · simp only [Act.put, List.setIfInBounds_toArray, List.set_cons_zero, List.set_cons_succ, i64_w, i32_w]
      rfl
    refine one_ (i := 8) (N := some 69) #[true, true, true, true, true, true, true, true, true, false, false, false, false, false, false, false, false, false, false, false, false, false, false] rfl rfl (one_of HT_.out (by kernel_rfl)) (by decide) (fun K hK => ?_)
    refine goes_ Try.func36 (by kernel_rfl) rfl #[.agg #[.int .i64 tq, .slice Aq ys.length cq, .int .i64 u]] (by rfl) rfl rfl (by (try simp only [List.map_toArray, List.map_cons, List.map_nil]); first | done | rfl | (simp only [List.length_drop, List.length_take]; rfl)) ?_
    refine (ok_iv HI.out 0 rfl HZ.out.1).mono ?_
    rintro e w12 ⟨rfl, hi, hb⟩
    refine ⟨_, rfl, ?_⟩
    clear HI hb
    have HI := Aside0.mk hi
    clear hi
    refine hK.out _ _ ⟨(blk_cell (Inv.blk HI.out (i := 1) rfl) 0).trans rfl, (blk_cell (Inv.blk HI.out (i := 1) rfl) 1).trans rfl, (blk_cell (Inv.blk HI.out (i := 1) rfl) 2).trans rfl, (blk_cell (Inv.blk HI.out (i := 0) rfl) 0).trans rfl, (blk_cell (Inv.blk HI.out (i := 0) rfl) 1).trans rfl, (blk_cell (Inv.blk HI.out (i := 0) rfl) 2).trans rfl⟩ (fun hHeld => ?_)
    clear hK K
    refine norm_ (a' := ?_) ?_ ?_
    rotate_left
    · show Act.put _ (some 69) _ = _
      simp only [Act.put, List.setIfInBounds_toArray, List.set_cons_zero, List.set_cons_succ, i64_w, i32_w]
      rfl
    refine pure_ (i := 9) (N := some 70) (v := ?_) (a' := ?_) #[true, true, true, true, true, true, true, true, true, true, false, false, false, false, false, false, false, false, false, false, false, false, false] rfl rfl (any_of HT_.out (by kernel_rfl)) (fun _ _ _ h => h) (Or.inl ⟨by rfl, ?_⟩) ?_ ?_
    rotate_left
    · intro w'
      go_simp
      with_reducible rfl
    rotate_left
    · simp only [Act.put, List.setIfInBounds_toArray, List.set_cons_zero, List.set_cons_succ, i64_w, i32_w]
      rfl
    refine pure_ (i := 10) (N := some 71) (v := ?_) (a' := ?_) #[true, true, true, true, true, true, true, true, true, true, true, false, false, false, false, false, false, false, false, false, false, false, false] rfl rfl (any_of HT_.out (by kernel_rfl)) (fun _ _ _ h => h) (Or.inl ⟨by rfl, ?_⟩) ?_ ?_
    rotate_left
    · intro w'
      go_simp
      with_reducible rfl
    rotate_left
    · simp only [Act.put, List.setIfInBounds_toArray, List.set_cons_zero, List.set_cons_succ, i64_w, i32_w]
      rfl
    refine pure_ (i := 11) (N := some 72) (v := ?_) (a' := ?_) #[true, true, true, true, true, true, true, true, true, true, true, true, false, false, false, false, false, false, false, false, false, false, false] rfl rfl (any_of HT_.out (by kernel_rfl)) (fun _ _ _ h => h) (Or.inl ⟨by rfl, ?_⟩) ?_ ?_
    rotate_left
    · intro w'
      go_simp
      with_reducible rfl
    rotate_left
    · simp only [Act.put, List.setIfInBounds_toArray, List.set_cons_zero, List.set_cons_succ, i64_w, i32_w]
      rfl
    refine pure_ (i := 12) (N := some 73) (v := ?_) (a' := ?_) #[true, true, true, true, true, true, true, true, true, true, true, true, true, false, false, false, false, false, false, false, false, false, false] rfl rfl (any_of HT_.out (by kernel_rfl)) (fun _ _ _ h => h) (Or.inl ⟨by rfl, ?_⟩) ?_ ?_
    rotate_left
    · intro w'
      go_simp
      with_reducible rfl
    rotate_left
    · simp only [Act.put, List.setIfInBounds_toArray, List.set_cons_zero, List.set_cons_succ, i64_w, i32_w]
      rfl
    refine pure_ (i := 15) (N := some 76) (v := ?_) (a' := ?_) #[true, true, true, true, true, true, true, true, true, true, true, true, true, false, false, true, false, false, false, false, false, false, false] rfl rfl (any_of HT_.out (by kernel_rfl)) (fun _ _ _ h => h) (Or.inl ⟨by rfl, ?_⟩) ?_ ?_
    rotate_left
    · intro w'
      go_simp
      with_reducible rfl
    rotate_left
    · simp only [Act.put, List.setIfInBounds_toArray, List.set_cons_zero, List.set_cons_succ, i64_w, i32_w]
      rfl
    refine pure_ (i := 18) (N := some 79) (v := ?_) (a' := ?_) #[true, true, true, true, true, true, true, true, true, true, true, true, true, false, false, true, false, false, true, false, false, false, false] rfl rfl (any_of HT_.out (by kernel_rfl)) (fun _ _ _ h => h) (Or.inl ⟨by rfl, ?_⟩) ?_ ?_
    rotate_left
    · intro w'
      go_simp
      with_reducible rfl
    rotate_left
    · simp only [Act.put, List.setIfInBounds_toArray, List.set_cons_zero, List.set_cons_succ, i64_w, i32_w]
      rfl
    refine take_ (i := 13) (N := some 74) (v := ?_) (a' := ?_) #[true, true, true, true, true, true, true, true, true, true, true, true, true, true, false, true, false, false, true, false, false, false, false] rfl rfl (take_ofW HT_.out HW_.out (by kernel_rfl)) (fun _ _ _ h => h) (Or.inl ⟨by rfl, ?_⟩) hHeld ?_ ?_
    rotate_left
    · rintro w' ⟨s0, s1, s2, s3, s4, s5⟩
      go_simp
      with_reducible rfl
    rotate_left
    · simp only [Act.put, List.setIfInBounds_toArray, List.set_cons_zero, List.set_cons_succ, i64_w, i32_w]
      rfl
    refine pure_ (i := 14) (N := some 75) (v := ?_) (a' := ?_) #[true, true, true, true, true, true, true, true, true, true, true, true, true, true, true, true, false, false, true, false, false, false, false] rfl rfl (any_of HT_.out (by kernel_rfl)) (fun _ _ _ h => h) (Or.inl ⟨by rfl, ?_⟩) ?_ ?_
    rotate_left
    · intro w'
      go_simp
      with_reducible rfl
    rotate_left
    · simp only [Act.put, List.setIfInBounds_toArray, List.set_cons_zero, List.set_cons_succ, i64_w, i32_w]
      rfl
    refine take_ (i := 16) (N := some 77) (v := ?_) (a' := ?_) #[true, true, true, true, true, true, true, true, true, true, true, true, true, true, true, true, true, false, true, false, false, false, false] rfl rfl (take_ofW HT_.out HW_.out (by kernel_rfl)) (fun _ _ _ h => h) (Or.inl ⟨by rfl, ?_⟩) hHeld ?_ ?_
    rotate_left
    · rintro w' ⟨s0, s1, s2, s3, s4, s5⟩
      go_simp
      with_reducible rfl
    rotate_left
    · simp only [Act.put, List.setIfInBounds_toArray, List.set_cons_zero, List.set_cons_succ, i64_w, i32_w]
      rfl
    refine pure_ (i := 17) (N := some 78) (v := ?_) (a' := ?_) #[true, true, true, true, true, true, true, true, true, true, true, true, true, true, true, true, true, true, true, false, false, false, false] rfl rfl (any_of HT_.out (by kernel_rfl)) (fun _ _ _ h => h) (Or.inl ⟨by rfl, ?_⟩) ?_ ?_
    rotate_left
    · intro w'
      go_simp
      with_reducible rfl
    rotate_left
    · simp only [Act.put, List.setIfInBounds_toArray, List.set_cons_zero, List.set_cons_succ, i64_w, i32_w]
      rfl
    refine one_ (i := 19) (N := some 80) #[true, true, true, true, true, true, true, true, true, true, true, true, true, true, true, true, true, true, true, true, false, false, false] rfl rfl (one_of HT_.out (by kernel_rfl)) (by decide) (fun K hK => ?_)
    refine goes_ Try.func55 (by kernel_rfl) rfl #[.bool z] (by rfl) rfl rfl (by (try simp only [List.map_toArray, List.map_cons, List.map_nil]); first | done | rfl | (simp only [List.length_drop, List.length_take]; rfl)) ?_
    refine (laws_btoi.calls z bt _ HBT.out).mono ?_
    rintro e w13 ⟨rfl, hb⟩
    refine ⟨_, rfl, ?_⟩
    have hi := HI.out.call (Drawn0.below hb)
    clear HI hb
    have HI := Aside0.mk hi
    clear hi
    refine hK.out _ _ ⟨(blk_cell (Inv.blk HI.out (i := 1) rfl) 0).trans rfl, (blk_cell (Inv.blk HI.out (i := 1) rfl) 1).trans rfl, (blk_cell (Inv.blk HI.out (i := 1) rfl) 2).trans rfl, (blk_cell (Inv.blk HI.out (i := 0) rfl) 0).trans rfl, (blk_cell (Inv.blk HI.out (i := 0) rfl) 1).trans rfl, (blk_cell (Inv.blk HI.out (i := 0) rfl) 2).trans rfl⟩ (fun hHeld => ?_)
    clear hK K
    refine norm_ (a' := ?_) ?_ ?_
    rotate_left
    · show Act.put _ (some 80) _ = _
      simp only [Act.put, List.setIfInBounds_toArray, List.set_cons_zero, List.set_cons_succ, i64_w, i32_w]
      rfl
    refine pure_ (i := 20) (N := some 81) (v := ?_) (a' := ?_) #[true, true, true, true, true, true, true, true, true, true, true, true, true, true, true, true, true, true, true, true, true, false, false] rfl rfl (any_of HT_.out (by kernel_rfl)) (fun _ _ _ h => h) (Or.inl ⟨by rfl, ?_⟩) ?_ ?_
    rotate_left
    · intro w'
      go_simp
      with_reducible rfl
    rotate_left
    · simp only [Act.put, List.setIfInBounds_toArray, List.set_cons_zero, List.set_cons_succ, i64_w, i32_w]
      rfl
    refine pure_ (i := 21) (N := some 82) (v := ?_) (a' := ?_) #[true, true, true, true, true, true, true, true, true, true, true, true, true, true, true, true, true, true, true, true, true, true, false] rfl rfl (any_of HT_.out (by kernel_rfl)) (fun _ _ _ h => h) (Or.inl ⟨by rfl, ?_⟩) ?_ ?_
    rotate_left
    · intro w'
      go_simp
      with_reducible rfl
    rotate_left
    · simp only [Act.put, List.setIfInBounds_toArray, List.set_cons_zero, List.set_cons_succ, i64_w, i32_w]
      rfl
    refine pure_ (i := 22) (N := some 83) (v := ?_) (a' := ?_) #[true, true, true, true, true, true, true, true, true, true, true, true, true, true, true, true, true, true, true, true, true, true, true] rfl rfl (any_of HT_.out (by kernel_rfl)) (fun _ _ _ h => h) (Or.inl ⟨by rfl, ?_⟩) ?_ ?_
    rotate_left
    · intro w'
      go_simp
      with_reducible rfl
    rotate_left
    · simp only [Act.put, List.setIfInBounds_toArray, List.set_cons_zero, List.set_cons_succ, i64_w, i32_w]
      rfl
    refine done_ (done_of HT_.out (by kernel_rfl)) ?_
    try go_wp2
    go_loopg [9] xs.length (fun kq v9 w' => ∃ (x9 : Int), v9 = .int .i64 x9 ∧ Aside0 (0 ≤ x9 ∧ x9 + (kq : Int) = (xs.length : Int)) ∧ Aside0 (Inv w w' [CRow k64 64 w ok (.slice A xs.length c) xs] [⟨gs, #[.int .i64 t, .slice A xs.length c, .int .i64 u], 54⟩]))
    case atStart => exact ⟨0, rfl, ⟨by omega⟩, ⟨HI.out.drop.dropbox⟩⟩
    case round =>
      clear hz1 hz2 hz3 hz4 hz5 hz6 hz7 HBT HI HZ hHeld
      obtain ⟨x9, rfl, HK, HI⟩ := hrel
      have hzgs0 : wr.cell? ⟨gs, 0, none⟩ = some (.int .i64 t) := (blk_cell (Inv.blk HI.out (i := 0) rfl) 0).trans rfl
      have hzgs1 : wr.cell? ⟨gs, 1, none⟩ = some (.slice A xs.length c) := (blk_cell (Inv.blk HI.out (i := 0) rfl) 1).trans rfl
      have hzgs2 : wr.cell? ⟨gs, 2, none⟩ = some (.int .i64 u) := (blk_cell (Inv.blk HI.out (i := 0) rfl) 2).trans rfl
      by_cases c9 : x9 < (xs.length : Int)
      · have c9b : decide (x9 < (xs.length : Int)) = true := decide_eq_true c9
        have C9 := Aside0.mk c9
        clear c9
        try go_wp2
        refine cw_any (fun W1 => Inv w W1 [CRow k64 64 w ok (.slice A xs.length c) xs] [⟨gs, #[.int .i64 t, .slice A xs.length c, .int .i64 u], 54⟩]) ?s1 ?_
        (case s1 => exact (by repeat (first | (with_reducible exact HI.out) | (with_reducible refine Inv.drewN ?_ _) | (with_reducible refine Inv.drew ?_))))
        intro w9 hp
        clear hzgs0 hzgs1 hzgs2
        clear HI
        have HI := Aside0.mk hp.drew
        clear hp
        obtain ⟨ad, A1, c1, e7, _, _⟩ := at_T64 (Kd.Q_reads' (Inv.atQ HI.out (i := 0) rfl)).2.2 x9 HK.out.1 C9.out
        cases e7
        have p7 : (0 ≤ x9) = True := eq_true HK.out.1
        have q7 : (x9 < (xs.length : Int)) = True := eq_true C9.out
        refine start_ (n := 14) (S := fun w' => w'.cell? ⟨gs, 0, none⟩ = some (.int .i64 t) ∧ w'.cell? ⟨gs, 1, none⟩ = some (.slice (some ad) xs.length c) ∧ w'.cell? ⟨gs, 2, none⟩ = some (.int .i64 u) ∧ w'.cell? (ad.add (x9.toNat * 2)) = some (.int .i64 (rd_T64 xs x9).f0)) (ds := []) #[false, false, false, false, false, false, false, false, false, false, false, false, false, false] (by kernel_rfl) rfl rfl ⟨(blk_cell (Inv.blk HI.out (i := 0) rfl) 0).trans rfl, (blk_cell (Inv.blk HI.out (i := 0) rfl) 1).trans rfl, (blk_cell (Inv.blk HI.out (i := 0) rfl) 2).trans rfl, at_fix (Kd.Q_reads' (Inv.atQ HI.out (i := 0) rfl)).2.2 x9 HK.out.1 C9.out⟩ (fun hHeld => ?_); refine with_tabW laws_FnSenders.tab15 laws_FnSenders.bits15 (fun HT_ HW_ => ?_)
        generalize w9.drew = w_d at HI hHeld ⊢
        refine pure_ (i := 1) (N := some 93) (v := ?_) (a' := ?_) #[false, true, false, false, false, false, false, false, false, false, false, false, false, false] rfl rfl (any_of HT_.out (by kernel_rfl)) (fun _ _ _ h => h) (Or.inl ⟨by rfl, ?_⟩) ?_ ?_
        rotate_left
        · intro w'
          go_simp
          with_reducible rfl
        rotate_left
        · simp only [Act.put, List.setIfInBounds_toArray, List.set_cons_zero, List.set_cons_succ, i64_w, i32_w]
          rfl
        refine pure_ (i := 3) (N := some 95) (v := ?_) (a' := ?_) #[false, true, false, true, false, false, false, false, false, false, false, false, false, false] rfl rfl (any_of HT_.out (by kernel_rfl)) (fun _ _ _ h => h) (Or.inl ⟨by rfl, ?_⟩) ?_ ?_
        rotate_left
        · intro w'
          go_simp
          with_reducible rfl
        rotate_left
        · simp only [Act.put, List.setIfInBounds_toArray, List.set_cons_zero, List.set_cons_succ, i64_w, i32_w]
          rfl
        refine take_ (i := 0) (N := some 92) (v := ?_) (a' := ?_) #[true, true, false, true, false, false, false, false, false, false, false, false, false, false] rfl rfl (take_ofW HT_.out HW_.out (by kernel_rfl)) (fun _ _ _ h => h) (Or.inl ⟨by rfl, ?_⟩) hHeld ?_ ?_
        rotate_left
        · rintro w' ⟨s0, s1, s2, s3⟩
          go_simp
          with_reducible rfl
        rotate_left
        · simp only [Act.put, List.setIfInBounds_toArray, List.set_cons_zero, List.set_cons_succ, i64_w, i32_w]
          rfl
        refine take_ (i := 2) (N := some 94) (v := ?_) (a' := ?_) #[true, true, true, true, false, false, false, false, false, false, false, false, false, false] rfl rfl (take_ofW HT_.out HW_.out (by kernel_rfl)) (fun _ _ _ h => h) (Or.inl ⟨by rfl, ?_⟩) hHeld ?_ ?_
        rotate_left
        · rintro w' ⟨s0, s1, s2, s3⟩
          go_simp
          with_reducible rfl
        rotate_left
        · simp only [Act.put, List.setIfInBounds_toArray, List.set_cons_zero, List.set_cons_succ, i64_w, i32_w]
          rfl
        refine pure_ (i := 4) (N := some 96) (v := ?_) (a' := ?_) #[true, true, true, true, true, false, false, false, false, false, false, false, false, false] rfl rfl (any_of HT_.out (by kernel_rfl)) (fun _ _ _ h => h) (Or.inl ⟨by rfl, ?_⟩) ?_ ?_
        rotate_left
        · intro w'
          go_simp
          with_reducible rfl
        rotate_left
        · simp only [Act.put, List.setIfInBounds_toArray, List.set_cons_zero, List.set_cons_succ, i64_w, i32_w]
          rfl
        refine pure_ (i := 5) (N := some 97) (v := ?_) (a' := ?_) #[true, true, true, true, true, true, false, false, false, false, false, false, false, false] rfl rfl (any_of HT_.out (by kernel_rfl)) (fun _ _ _ h => h) (Or.inl ⟨by rfl, ?_⟩) ?_ ?_
        rotate_left
        · intro w'
          go_simp
          with_reducible rfl
        rotate_left
        · simp only [Act.put, List.setIfInBounds_toArray, List.set_cons_zero, List.set_cons_succ, i64_w, i32_w]
          rfl
        refine take_ (i := 6) (N := some 98) (v := ?_) (a' := ?_) #[true, true, true, true, true, true, true, false, false, false, false, false, false, false] rfl rfl (take_ofW HT_.out HW_.out (by kernel_rfl)) (fun _ _ _ h => h) (Or.inl ⟨by rfl, ?_⟩) hHeld ?_ ?_
        rotate_left
        · rintro w' ⟨s0, s1, s2, s3⟩
          go_simp
          with_reducible rfl
        rotate_left
        · simp only [Act.put, List.setIfInBounds_toArray, List.set_cons_zero, List.set_cons_succ, i64_w, i32_w]
          rfl
        refine two_ (i := 7) (j := 11) (Ni := some 99) (Nj := some 10) #[true, true, true, true, true, true, true, true, false, false, false, false, false, false] #[true, true, true, true, true, true, true, false, false, false, false, true, false, false] rfl rfl rfl rfl (two_of HT_.out (by kernel_rfl)) (by decide) (by decide) (fun K hK => ?_) (fun K hK => ?_)
        · refine goes_ Try.func43 (by kernel_rfl) rfl #[.agg #[.int .i64 t, .slice (some ad) xs.length c, .int .i64 u], .int .i64 (rd_T64 xs x9).f0] (by rfl) rfl rfl (by (try simp only [List.map_toArray, List.map_cons, List.map_nil]); first | done | rfl | (simp only [List.length_drop, List.length_take]; rfl)) ?_
          refine (ack_iv HI.out 0 rfl HO.out x9 HK.out.1 C9.out).mono ?_
          rintro e w10 ⟨Ay, ys, cy, uy, oky, rfl, hy, hi, _⟩
          refine ⟨_, rfl, ?_⟩
          clear HI
          have HI := Aside0.mk hi
          have HY := Aside0.mk hy
          clear hi hy
          refine hK.out _ _ ⟨(blk_cell (Inv.blk HI.out (i := 0) rfl) 0).trans rfl, (blk_cell (Inv.blk HI.out (i := 0) rfl) 1).trans rfl, (blk_cell (Inv.blk HI.out (i := 0) rfl) 2).trans rfl, at_fix (Kd.Q_reads' (Inv.atQ HI.out (i := 1) rfl)).2.2 x9 HK.out.1 C9.out⟩ (fun hHeld => ?_)
          clear hK K
          refine norm_ (a' := ?_) ?_ ?_
          rotate_left
          · show Act.put _ (some 99) _ = _
            simp only [Act.put, List.setIfInBounds_toArray, List.set_cons_zero, List.set_cons_succ, i64_w, i32_w]
            rfl
          refine pure_ (i := 8) (N := some 91) (v := ?_) (a' := ?_) #[true, true, true, true, true, true, true, true, true, false, false, false, false, false] rfl rfl (any_of HT_.out (by kernel_rfl)) (fun _ _ _ h => h) (Or.inl ⟨by rfl, ?_⟩) ?_ ?_
          rotate_left
          · intro w'
            go_simp
            with_reducible rfl
          rotate_left
          · simp only [Act.put, List.setIfInBounds_toArray, List.set_cons_zero, List.set_cons_succ, i64_w, i32_w]
            rfl
          refine pure_ (i := 9) (N := some 100) (v := ?_) (a' := ?_) #[true, true, true, true, true, true, true, true, true, true, false, false, false, false] rfl rfl (any_of HT_.out (by kernel_rfl)) (fun _ _ _ h => h) (Or.inl ⟨by rfl, ?_⟩) ?_ ?_
          rotate_left
          · intro w'
            go_simp
            with_reducible rfl
          rotate_left
          · simp only [Act.put, List.setIfInBounds_toArray, List.set_cons_zero, List.set_cons_succ, i64_w, i32_w]
            rfl
          refine pure_ (i := 10) (N := some 101) (v := ?_) (a' := ?_) #[true, true, true, true, true, true, true, true, true, true, true, false, false, false] rfl rfl (any_of HT_.out (by kernel_rfl)) (fun _ _ _ h => h) (Or.inl ⟨by rfl, ?_⟩) ?_ ?_
          rotate_left
          · intro w'
            go_simp
            with_reducible rfl
          rotate_left
          · simp only [Act.put, List.setIfInBounds_toArray, List.set_cons_zero, List.set_cons_succ, i64_w, i32_w]
            rfl
          refine one_ (i := 11) (N := some 10) #[true, true, true, true, true, true, true, true, true, true, true, true, false, false] rfl rfl (one_of HT_.out (by kernel_rfl)) (by decide) (fun K hK => ?_)
          refine box_step ?hg (N := 10) ?hd (cs := #[.int .i64 0, .slice none 0 0, .int .i64 0]) (t := 54) ?hr ?_; (case hd => rfl); (case hg => rfl); (case hr => first | (go_simp; done) | (go_simp; rfl))
          intro gy hg w11 hbox hb
          have hi := Inv.newbox HI.out hb hg hbox
          clear HI hg hbox hb
          have HI := Aside0.mk hi
          clear hi
          refine hK.out _ _ ⟨(blk_cell (Inv.blk HI.out (i := 1) rfl) 0).trans rfl, (blk_cell (Inv.blk HI.out (i := 1) rfl) 1).trans rfl, (blk_cell (Inv.blk HI.out (i := 1) rfl) 2).trans rfl, at_fix (Kd.Q_reads' (Inv.atQ HI.out (i := 1) rfl)).2.2 x9 HK.out.1 C9.out⟩ (fun hHeld => ?_)
          clear hK K
          refine norm_ (a' := ?_) ?_ ?_
          rotate_left
          · show Act.put _ (some 10) _ = _
            simp only [Act.put, List.setIfInBounds_toArray, List.set_cons_zero, List.set_cons_succ, i64_w, i32_w]
            rfl
          refine one_ (i := 12) (N := none) #[true, true, true, true, true, true, true, true, true, true, true, true, true, false] rfl rfl (one_of HT_.out (by kernel_rfl)) (by decide) (fun K hK => ?_)
          have hzgy0 : w11.cell? ⟨gy, 0, none⟩ = some (.int .i64 0) := (blk_cell (Inv.blk HI.out (i := 0) rfl) 0).trans rfl
          have hzfgy0 := blk_frozen (Inv.blk HI.out (i := 0) rfl) 0
          have hzgy1 : w11.cell? ⟨gy, 1, none⟩ = some (.slice none 0 0) := (blk_cell (Inv.blk HI.out (i := 0) rfl) 1).trans rfl
          have hzfgy1 := blk_frozen (Inv.blk HI.out (i := 0) rfl) 1
          have hzgy2 : w11.cell? ⟨gy, 2, none⟩ = some (.int .i64 0) := (blk_cell (Inv.blk HI.out (i := 0) rfl) 2).trans rfl
          have hzfgy2 := blk_frozen (Inv.blk HI.out (i := 0) rfl) 2
          have hn1 : gy ≠ gs := Inv.ne HI.out (i := 0) (j := 1) rfl rfl (by decide)
          have hn2 : gs ≠ gy := Ne.symm hn1
          clear hHeld
          refine skip_ (w1 := ?_) (by rfl) rfl ?_ ?_
          rotate_left
          · go_simp
            rfl
          have hi : Inv w (((w11.setCell ⟨gy, 0, none⟩ (.int .i64 t)).setCell ⟨gy, 1, none⟩ (.slice Ay ys.length cy)).setCell ⟨gy, 2, none⟩ (.int .i64 uy)) [CRow k64 64 w oky (.slice Ay ys.length cy) ys, CRow k64 64 w ok (.slice (some ad) xs.length c) xs] [⟨gy, #[.int .i64 t, .slice Ay ys.length cy, .int .i64 uy], 54⟩, ⟨gs, #[.int .i64 t, .slice (some ad) xs.length c, .int .i64 u], 54⟩] := (Inv.put' (bs := [⟨gy, #[.int .i64 t, .slice Ay ys.length cy, .int .i64 0], 54⟩, ⟨gs, #[.int .i64 t, .slice (some ad) xs.length c, .int .i64 u], 54⟩]) (cs := #[.int .i64 t, .slice Ay ys.length cy, .int .i64 0]) (Inv.put' (bs := [⟨gy, #[.int .i64 t, .slice none 0 0, .int .i64 0], 54⟩, ⟨gs, #[.int .i64 t, .slice (some ad) xs.length c, .int .i64 u], 54⟩]) (cs := #[.int .i64 t, .slice none 0 0, .int .i64 0]) (Inv.put' (bs := [⟨gy, #[.int .i64 0, .slice none 0 0, .int .i64 0], 54⟩, ⟨gs, #[.int .i64 t, .slice (some ad) xs.length c, .int .i64 u], 54⟩]) (cs := #[.int .i64 0, .slice none 0 0, .int .i64 0]) HI.out 0 rfl 0 (.int .i64 t) rfl rfl) 0 rfl 1 (.slice Ay ys.length cy) rfl rfl) 0 rfl 2 (.int .i64 uy) rfl rfl)
          generalize ((w11.setCell ⟨gy, 0, none⟩ (.int .i64 t)).setCell ⟨gy, 1, none⟩ (.slice Ay ys.length cy)).setCell ⟨gy, 2, none⟩ (.int .i64 uy) = w12 at hi ⊢
          clear hzgy0 hzfgy0 hzgy1 hzfgy1 hzgy2 hzfgy2
          clear HI
          have HI := Aside0.mk hi
          clear hi
          refine hK.out _ _ ⟨(blk_cell (Inv.blk HI.out (i := 1) rfl) 0).trans rfl, (blk_cell (Inv.blk HI.out (i := 1) rfl) 1).trans rfl, (blk_cell (Inv.blk HI.out (i := 1) rfl) 2).trans rfl, at_fix (Kd.Q_reads' (Inv.atQ HI.out (i := 1) rfl)).2.2 x9 HK.out.1 C9.out⟩ (fun hHeld => ?_)
          clear hK K
          refine pure_ (i := 13) (N := some 11) (v := ?_) (a' := ?_) #[true, true, true, true, true, true, true, true, true, true, true, true, true, true] rfl rfl (any_of HT_.out (by kernel_rfl)) (fun _ _ _ h => h) (Or.inl ⟨by rfl, ?_⟩) ?_ ?_
          rotate_left
          · intro w'
            go_simp
            with_reducible rfl
          rotate_left
          · simp only [Act.put, List.setIfInBounds_toArray, List.set_cons_zero, List.set_cons_succ, i64_w, i32_w]
            rfl
          refine done_ (done_of HT_.out (by kernel_rfl)) ?_
          clear hHeld p7 q7
          have hzgy0 : w12.cell? ⟨gy, 0, none⟩ = some (.int .i64 t) := (blk_cell (Inv.blk HI.out (i := 0) rfl) 0).trans rfl
          have hzgy1 : w12.cell? ⟨gy, 1, none⟩ = some (.slice Ay ys.length cy) := (blk_cell (Inv.blk HI.out (i := 0) rfl) 1).trans rfl
          have hzgy2 : w12.cell? ⟨gy, 2, none⟩ = some (.int .i64 uy) := (blk_cell (Inv.blk HI.out (i := 0) rfl) 2).trans rfl
          have hzgs0 : w12.cell? ⟨gs, 0, none⟩ = some (.int .i64 t) := (blk_cell (Inv.blk HI.out (i := 1) rfl) 0).trans rfl
          have hzgs1 : w12.cell? ⟨gs, 1, none⟩ = some (.slice (some ad) xs.length c) := (blk_cell (Inv.blk HI.out (i := 1) rfl) 1).trans rfl
          have hzgs2 : w12.cell? ⟨gs, 2, none⟩ = some (.int .i64 u) := (blk_cell (Inv.blk HI.out (i := 1) rfl) 2).trans rfl
          have hl1 : ((ys.length : Int) != wrap64 (wrap64 ((xs.length : Int) - x9) - 1)) = false := by rw [HY.out.2]; simp
          have hl2 : ((ys.length : Int) == wrap64 (wrap64 ((xs.length : Int) - x9) - 1)) = true := by rw [HY.out.2]; simp
          go_wp2_with (go_at_call 36; refine (ok_iv (w := w) (rows := [CRow k64 64 w oky (.slice Ay ys.length cy) ys, CRow k64 64 w ok (.slice (some ad) xs.length c) xs]) (bs := [⟨gy, #[.int .i64 t, .slice Ay ys.length cy, .int .i64 uy], 54⟩, ⟨gs, #[.int .i64 t, .slice (some ad) xs.length c, .int .i64 u], 54⟩]) ?s1 0 rfl HY.out.1).mono ?_; (case s1 => exact (by repeat (first | (with_reducible exact HI.out) | (with_reducible refine Inv.drewN ?_ _) | (with_reducible refine Inv.drew ?_)))); rintro e w13 ⟨rfl, hi, -⟩; clear HI; clear hzgy0 hzgy1 hzgy2 hzgs0 hzgs1 hzgs2; have HI := Aside0.mk hi; clear hi; have hzgy0 : w13.cell? ⟨gy, 0, none⟩ = some (.int .i64 t) := (blk_cell (Inv.blk HI.out (i := 0) rfl) 0).trans rfl; have hzgy1 : w13.cell? ⟨gy, 1, none⟩ = some (.slice Ay ys.length cy) := (blk_cell (Inv.blk HI.out (i := 0) rfl) 1).trans rfl; have hzgy2 : w13.cell? ⟨gy, 2, none⟩ = some (.int .i64 uy) := (blk_cell (Inv.blk HI.out (i := 0) rfl) 2).trans rfl; have hzgs0 : w13.cell? ⟨gs, 0, none⟩ = some (.int .i64 t) := (blk_cell (Inv.blk HI.out (i := 1) rfl) 0).trans rfl; have hzgs1 : w13.cell? ⟨gs, 1, none⟩ = some (.slice (some ad) xs.length c) := (blk_cell (Inv.blk HI.out (i := 1) rfl) 1).trans rfl; have hzgs2 : w13.cell? ⟨gs, 2, none⟩ = some (.int .i64 u) := (blk_cell (Inv.blk HI.out (i := 1) rfl) 2).trans rfl)
          have e4 : wrap64 (x9 + 1) = x9 + 1 := Num.w64 (by have := HK.out; omega) (by have := HK.out; have := C9.out; have := HO.out.2.1; omega)
          obtain ⟨k1, rfl⟩ : ∃ k1, gk = k1 + 1 := ⟨gk - 1, by have := HK.out; have := C9.out; omega⟩
          go_roundg k1
          case measure => omega
          case rel => exact ⟨x9 + 1, by rw [e4], ⟨by have := HK.out; omega⟩, ⟨HI.out.drop.dropbox⟩⟩
        · refine box_step ?hg (N := 10) ?hd (cs := #[.int .i64 0, .slice none 0 0, .int .i64 0]) (t := 54) ?hr ?_; (case hd => rfl); (case hg => rfl); (case hr => first | (go_simp; done) | (go_simp; rfl))
          intro gy hg w10 hbox hb
          have hi := Inv.newbox HI.out hb hg hbox
          clear HI hg hbox hb
          have HI := Aside0.mk hi
          clear hi
          refine hK.out _ _ ⟨(blk_cell (Inv.blk HI.out (i := 1) rfl) 0).trans rfl, (blk_cell (Inv.blk HI.out (i := 1) rfl) 1).trans rfl, (blk_cell (Inv.blk HI.out (i := 1) rfl) 2).trans rfl, at_fix (Kd.Q_reads' (Inv.atQ HI.out (i := 0) rfl)).2.2 x9 HK.out.1 C9.out⟩ (fun hHeld => ?_)
          clear hK K
          refine norm_ (a' := ?_) ?_ ?_
          rotate_left
          · show Act.put _ (some 10) _ = _
            simp only [Act.put, List.setIfInBounds_toArray, List.set_cons_zero, List.set_cons_succ, i64_w, i32_w]
            rfl
          refine one_ (i := 7) (N := some 99) #[true, true, true, true, true, true, true, true, false, false, false, true, false, false] rfl rfl (one_of HT_.out (by kernel_rfl)) (by decide) (fun K hK => ?_)
          refine goes_ Try.func43 (by kernel_rfl) rfl #[.agg #[.int .i64 t, .slice (some ad) xs.length c, .int .i64 u], .int .i64 (rd_T64 xs x9).f0] (by rfl) rfl rfl (by (try simp only [List.map_toArray, List.map_cons, List.map_nil]); first | done | rfl | (simp only [List.length_drop, List.length_take]; rfl)) ?_
          refine (ack_iv HI.out 0 rfl HO.out x9 HK.out.1 C9.out).mono ?_
          rintro e w11 ⟨Ay, ys, cy, uy, oky, rfl, hy, hi, _⟩
          refine ⟨_, rfl, ?_⟩
          clear HI
          have HI := Aside0.mk hi
          have HY := Aside0.mk hy
          clear hi hy
          refine hK.out _ _ ⟨(blk_cell (Inv.blk HI.out (i := 1) rfl) 0).trans rfl, (blk_cell (Inv.blk HI.out (i := 1) rfl) 1).trans rfl, (blk_cell (Inv.blk HI.out (i := 1) rfl) 2).trans rfl, at_fix (Kd.Q_reads' (Inv.atQ HI.out (i := 1) rfl)).2.2 x9 HK.out.1 C9.out⟩ (fun hHeld => ?_)
          clear hK K
          refine norm_ (a' := ?_) ?_ ?_
          rotate_left
          · show Act.put _ (some 99) _ = _
            simp only [Act.put, List.setIfInBounds_toArray, List.set_cons_zero, List.set_cons_succ, i64_w, i32_w]
            rfl
          refine pure_ (i := 8) (N := some 91) (v := ?_) (a' := ?_) #[true, true, true, true, true, true, true, true, true, false, false, true, false, false] rfl rfl (any_of HT_.out (by kernel_rfl)) (fun _ _ _ h => h) (Or.inl ⟨by rfl, ?_⟩) ?_ ?_
          rotate_left
          · intro w'
            go_simp
            with_reducible rfl
          rotate_left
          · simp only [Act.put, List.setIfInBounds_toArray, List.set_cons_zero, List.set_cons_succ, i64_w, i32_w]
            rfl
          refine pure_ (i := 9) (N := some 100) (v := ?_) (a' := ?_) #[true, true, true, true, true, true, true, true, true, true, false, true, false, false] rfl rfl (any_of HT_.out (by kernel_rfl)) (fun _ _ _ h => h) (Or.inl ⟨by rfl, ?_⟩) ?_ ?_
          rotate_left
          · intro w'
            go_simp
            with_reducible rfl
          rotate_left
          · simp only [Act.put, List.setIfInBounds_toArray, List.set_cons_zero, List.set_cons_succ, i64_w, i32_w]
            rfl
          refine pure_ (i := 10) (N := some 101) (v := ?_) (a' := ?_) #[true, true, true, true, true, true, true, true, true, true, true, true, false, false] rfl rfl (any_of HT_.out (by kernel_rfl)) (fun _ _ _ h => h) (Or.inl ⟨by rfl, ?_⟩) ?_ ?_
          rotate_left
          · intro w'
            go_simp
            with_reducible rfl
          rotate_left
          · simp only [Act.put, List.setIfInBounds_toArray, List.set_cons_zero, List.set_cons_succ, i64_w, i32_w]
            rfl
          refine one_ (i := 12) (N := none) #[true, true, true, true, true, true, true, true, true, true, true, true, true, false] rfl rfl (one_of HT_.out (by kernel_rfl)) (by decide) (fun K hK => ?_)
          have hzgy0 : w11.cell? ⟨gy, 0, none⟩ = some (.int .i64 0) := (blk_cell (Inv.blk HI.out (i := 0) rfl) 0).trans rfl
          have hzfgy0 := blk_frozen (Inv.blk HI.out (i := 0) rfl) 0
          have hzgy1 : w11.cell? ⟨gy, 1, none⟩ = some (.slice none 0 0) := (blk_cell (Inv.blk HI.out (i := 0) rfl) 1).trans rfl
          have hzfgy1 := blk_frozen (Inv.blk HI.out (i := 0) rfl) 1
          have hzgy2 : w11.cell? ⟨gy, 2, none⟩ = some (.int .i64 0) := (blk_cell (Inv.blk HI.out (i := 0) rfl) 2).trans rfl
          have hzfgy2 := blk_frozen (Inv.blk HI.out (i := 0) rfl) 2
          have hn1 : gy ≠ gs := Inv.ne HI.out (i := 0) (j := 1) rfl rfl (by decide)
          have hn2 : gs ≠ gy := Ne.symm hn1
          clear hHeld
          refine skip_ (w1 := ?_) (by rfl) rfl ?_ ?_
          rotate_left
          · go_simp
            rfl
          have hi : Inv w (((w11.setCell ⟨gy, 0, none⟩ (.int .i64 t)).setCell ⟨gy, 1, none⟩ (.slice Ay ys.length cy)).setCell ⟨gy, 2, none⟩ (.int .i64 uy)) [CRow k64 64 w oky (.slice Ay ys.length cy) ys, CRow k64 64 w ok (.slice (some ad) xs.length c) xs] [⟨gy, #[.int .i64 t, .slice Ay ys.length cy, .int .i64 uy], 54⟩, ⟨gs, #[.int .i64 t, .slice (some ad) xs.length c, .int .i64 u], 54⟩] := (Inv.put' (bs := [⟨gy, #[.int .i64 t, .slice Ay ys.length cy, .int .i64 0], 54⟩, ⟨gs, #[.int .i64 t, .slice (some ad) xs.length c, .int .i64 u], 54⟩]) (cs := #[.int .i64 t, .slice Ay ys.length cy, .int .i64 0]) (Inv.put' (bs := [⟨gy, #[.int .i64 t, .slice none 0 0, .int .i64 0], 54⟩, ⟨gs, #[.int .i64 t, .slice (some ad) xs.length c, .int .i64 u], 54⟩]) (cs := #[.int .i64 t, .slice none 0 0, .int .i64 0]) (Inv.put' (bs := [⟨gy, #[.int .i64 0, .slice none 0 0, .int .i64 0], 54⟩, ⟨gs, #[.int .i64 t, .slice (some ad) xs.length c, .int .i64 u], 54⟩]) (cs := #[.int .i64 0, .slice none 0 0, .int .i64 0]) HI.out 0 rfl 0 (.int .i64 t) rfl rfl) 0 rfl 1 (.slice Ay ys.length cy) rfl rfl) 0 rfl 2 (.int .i64 uy) rfl rfl)
          generalize ((w11.setCell ⟨gy, 0, none⟩ (.int .i64 t)).setCell ⟨gy, 1, none⟩ (.slice Ay ys.length cy)).setCell ⟨gy, 2, none⟩ (.int .i64 uy) = w12 at hi ⊢
          clear hzgy0 hzfgy0 hzgy1 hzfgy1 hzgy2 hzfgy2
          clear HI
          have HI := Aside0.mk hi
          clear hi
          refine hK.out _ _ ⟨(blk_cell (Inv.blk HI.out (i := 1) rfl) 0).trans rfl, (blk_cell (Inv.blk HI.out (i := 1) rfl) 1).trans rfl, (blk_cell (Inv.blk HI.out (i := 1) rfl) 2).trans rfl, at_fix (Kd.Q_reads' (Inv.atQ HI.out (i := 1) rfl)).2.2 x9 HK.out.1 C9.out⟩ (fun hHeld => ?_)
          clear hK K
          refine pure_ (i := 13) (N := some 11) (v := ?_) (a' := ?_) #[true, true, true, true, true, true, true, true, true, true, true, true, true, true] rfl rfl (any_of HT_.out (by kernel_rfl)) (fun _ _ _ h => h) (Or.inl ⟨by rfl, ?_⟩) ?_ ?_
          rotate_left
          · intro w'
            go_simp
            with_reducible rfl
          rotate_left
          · simp only [Act.put, List.setIfInBounds_toArray, List.set_cons_zero, List.set_cons_succ, i64_w, i32_w]
            rfl
          refine done_ (done_of HT_.out (by kernel_rfl)) ?_
          clear hHeld p7 q7
          have hzgy0 : w12.cell? ⟨gy, 0, none⟩ = some (.int .i64 t) := (blk_cell (Inv.blk HI.out (i := 0) rfl) 0).trans rfl
          have hzgy1 : w12.cell? ⟨gy, 1, none⟩ = some (.slice Ay ys.length cy) := (blk_cell (Inv.blk HI.out (i := 0) rfl) 1).trans rfl
          have hzgy2 : w12.cell? ⟨gy, 2, none⟩ = some (.int .i64 uy) := (blk_cell (Inv.blk HI.out (i := 0) rfl) 2).trans rfl
          have hzgs0 : w12.cell? ⟨gs, 0, none⟩ = some (.int .i64 t) := (blk_cell (Inv.blk HI.out (i := 1) rfl) 0).trans rfl
          have hzgs1 : w12.cell? ⟨gs, 1, none⟩ = some (.slice (some ad) xs.length c) := (blk_cell (Inv.blk HI.out (i := 1) rfl) 1).trans rfl
          have hzgs2 : w12.cell? ⟨gs, 2, none⟩ = some (.int .i64 u) := (blk_cell (Inv.blk HI.out (i := 1) rfl) 2).trans rfl
          have hl1 : ((ys.length : Int) != wrap64 (wrap64 ((xs.length : Int) - x9) - 1)) = false := by rw [HY.out.2]; simp
          have hl2 : ((ys.length : Int) == wrap64 (wrap64 ((xs.length : Int) - x9) - 1)) = true := by rw [HY.out.2]; simp
          go_wp2_with (go_at_call 36; refine (ok_iv (w := w) (rows := [CRow k64 64 w oky (.slice Ay ys.length cy) ys, CRow k64 64 w ok (.slice (some ad) xs.length c) xs]) (bs := [⟨gy, #[.int .i64 t, .slice Ay ys.length cy, .int .i64 uy], 54⟩, ⟨gs, #[.int .i64 t, .slice (some ad) xs.length c, .int .i64 u], 54⟩]) ?s1 0 rfl HY.out.1).mono ?_; (case s1 => exact (by repeat (first | (with_reducible exact HI.out) | (with_reducible refine Inv.drewN ?_ _) | (with_reducible refine Inv.drew ?_)))); rintro e w13 ⟨rfl, hi, -⟩; clear HI; clear hzgy0 hzgy1 hzgy2 hzgs0 hzgs1 hzgs2; have HI := Aside0.mk hi; clear hi; have hzgy0 : w13.cell? ⟨gy, 0, none⟩ = some (.int .i64 t) := (blk_cell (Inv.blk HI.out (i := 0) rfl) 0).trans rfl; have hzgy1 : w13.cell? ⟨gy, 1, none⟩ = some (.slice Ay ys.length cy) := (blk_cell (Inv.blk HI.out (i := 0) rfl) 1).trans rfl; have hzgy2 : w13.cell? ⟨gy, 2, none⟩ = some (.int .i64 uy) := (blk_cell (Inv.blk HI.out (i := 0) rfl) 2).trans rfl; have hzgs0 : w13.cell? ⟨gs, 0, none⟩ = some (.int .i64 t) := (blk_cell (Inv.blk HI.out (i := 1) rfl) 0).trans rfl; have hzgs1 : w13.cell? ⟨gs, 1, none⟩ = some (.slice (some ad) xs.length c) := (blk_cell (Inv.blk HI.out (i := 1) rfl) 1).trans rfl; have hzgs2 : w13.cell? ⟨gs, 2, none⟩ = some (.int .i64 u) := (blk_cell (Inv.blk HI.out (i := 1) rfl) 2).trans rfl)
          have e4 : wrap64 (x9 + 1) = x9 + 1 := Num.w64 (by have := HK.out; omega) (by have := HK.out; have := C9.out; have := HO.out.2.1; omega)
          obtain ⟨k1, rfl⟩ : ∃ k1, gk = k1 + 1 := ⟨gk - 1, by have := HK.out; have := C9.out; omega⟩
          go_roundg k1
          case measure => omega
          case rel => exact ⟨x9 + 1, by rw [e4], ⟨by have := HK.out; omega⟩, ⟨HI.out.drop.dropbox⟩⟩
      · have c9b : decide (x9 < (xs.length : Int)) = false := decide_eq_false c9
        clear c9
        go_wp2
        go_ret
        exact ⟨rfl, (by repeat (first | (with_reducible exact HI.out.below) | (with_reducible apply pw_below_drewN) | (with_reducible apply below_drew1)))⟩
/-- As the row asks it. -/
theorem laws_FnSenders.walk (a0 : Option Addr) (len0 cap0 : Nat) (z0 : List Int) (w : World) (w0 : (a0 = none ∧ len0 = 0 ∧ cap0 = 0 ∧ z0 = []) ∨ ∃ x, a0 = some x ∧ len0 ≤ cap0 ∧ cap0 ≤ maxLen ∧ z0.length = cap0 ∧ (∀ i, i < z0.length → w.cell? (x.add i) = some (.int .u8 (z0.getD i 0))) ∧ ∀ n ∈ z0, (Lit.int .u8 n).wf = true) (y0 : len0 * 1 ≤ 140737488351232) :
    Calls Try.prog 12 #[.slice a0 len0 cap0] w fun e w' => e = .returned (.bool true) ∧ Below w.heap.size w w' := by
  obtain ⟨l0, rfl, hr0, hm0, hw0, hc0⟩ := ReadsInt.ofRowC w0
  exact laws_FnSenders.calls _ _ l0 w (Kd.C_of_reads (d := (0 : Int)) (h1 := fun _ => rfl) hr0) hc0 hw0

end Go.Proofs.Ytdnekkbchlibhaa.PFnSenders
