/- The reference's DrawSender answers a sender in order. Conditions: the row of bytes reads as the list, its length is at most 2^20. -/
import Derived.Test.YtdnekkbchlibhaaSndSn
namespace Go.Proofs.Ytdnekkbchlibhaa.PFnSenders
open Go.RowKit Go.Proofs.YtdnekkbchlibhaaW.PrintWords Go.Proofs.YtdnekkbchlibhaaW.PrintLast Go.Proofs.YtdnekkbchlibhaaW.PrintMore Go.Proofs.Ytdnekkbchlibhaa.Pure Go.Proofs.Ytdnekkbchlibhaa.Own
attribute [local go_sem] max2_int min2_int max_two min_two max_three min_three max_four min_four   -- for this text's walks alone
set_option linter.unusedVariables false
set_option linter.unusedSimpArgs false


def spec_l08Sender.T7 : Bool × List (List Nat × List Nat) := (true, [([], []), ([], []), ([1], [1]), ([], []), ([], []), ([4], [4]), ([5], [5]), ([3, 6], [3, 6]), ([2, 7], [2, 7]), ([8], [8]), ([9], [9]), ([0, 10, 7], [0, 10]), ([11], [11]), ([12], [12]), ([12], [12]), ([13, 11, 0, 1, 2, 3, 4, 5, 6, 7, 8, 9, 10, 11, 12, 13], [13])])
def spec_l08Sender.B7 : List Nat := [0, 0, 2, 0, 0, 16, 48, 120, 254, 510, 1022, 2047, 4095, 8191, 8191, 16383]
theorem spec_l08Sender.tab7 : rtab .any (opsOf Try.f98 7) = spec_l08Sender.T7 := by kernel_rfl
theorem spec_l08Sender.bits7 : waitsOk spec_l08Sender.T7.2 spec_l08Sender.B7 = true := by kernel_rfl
def spec_l08Sender.T10 : Bool × List (List Nat × List Nat) := (true, [([], []), ([], []), ([1], [1]), ([0, 2, 2], [0, 2]), ([3], [3]), ([4], [4]), ([4], [4]), ([5, 3, 0, 1, 2, 3, 4, 5], [5])])
def spec_l08Sender.B10 : List Nat := [0, 0, 2, 7, 15, 31, 31, 63]
theorem spec_l08Sender.tab10 : rtab .any (opsOf Try.f98 10) = spec_l08Sender.T10 := by kernel_rfl
theorem spec_l08Sender.bits10 : waitsOk spec_l08Sender.T10.2 spec_l08Sender.B10 = true := by kernel_rfl
set_option maxHeartbeats 16000000 in
set_option maxRecDepth 100000 in
theorem sender_dr (w0 W : World) (g : Nat) (rows : List MRow) (bs : List MBox) (h : Dr w0 W g rows bs) :
    Calls Try.prog 98 #[.pointer (some ⟨g, 0, none⟩)] W fun e W' => ∃ (t : Int) (A : Option Addr) (xs : List S64) (c : Nat) (u : Int) (ok : Nat → Prop), e = .returned (.agg #[.int .i64 t, .slice A xs.length c, .int .i64 u]) ∧ okS t xs u ∧ Dr w0 W' g (CRow k64 64 w0 ok (.slice A xs.length c) xs :: rows) bs := by
  have hu54 := Try.underlying54
  have HD0 := Aside0.mk h
  clear h
  go_enter Try.func98, Try.ntmps98
  go_wp2_with (first
    | ((with_reducible refine gate_dst (N := 2) rfl ?_); refine box_event ?hg (N := 2) ?hd (cs := #[.int .i64 0, .slice none 0 0, .int .i64 0]) (t := 54) ?hr ?_; (case hd => rfl); (case hg => rfl); (case hr => first | (go_simp; done) | (go_simp; rfl)); intro gr hg W2 hbox hb; have HD1 := Aside0.mk (Dr.newbox HD0.out hb hg hbox); clear HD0 hg hbox hb)
    | (go_at_call 70; refine (below_dr (w0 := w0) (rows := rows) (bs := ⟨gr, #[.int .i64 0, .slice none 0 0, .int .i64 0], 54⟩ :: bs) ?s1 _).mono ?_; (case s1 => exact (by repeat (first | (with_reducible exact HD1.out) | (with_reducible apply Dr.drewN) | (with_reducible apply Dr.drew)))); rintro e w5 ⟨t, rfl, hr, hd⟩; clear HD1; have HD2 := Aside0.mk hd; have HT := Aside0.mk (show 0 ≤ t ∧ t ≤ 15 by omega); clear hd hr)
    | ((with_reducible refine gate_dst (N := 3) rfl ?_); refine box_event ?hg (N := 3) ?hd (cs := #[.int .i64 0, .slice none 0 0, .int .i64 0]) (t := 54) ?hr ?_; (case hd => rfl); (case hg => rfl); (case hr => first | (go_simp; done) | (go_simp; rfl)); intro gs hg W3 hbox hb; have HD3 := Aside0.mk (Dr.newbox (by repeat (first | (with_reducible exact HD2.out) | (with_reducible apply Dr.drewN) | (with_reducible apply Dr.drew))) hb hg hbox); clear HD2 hg hbox hb; have hz0 := (blk_cell (HD3.out.blk (i := 0) rfl) 0).trans rfl; have hz1 := (blk_cell (HD3.out.blk (i := 0) rfl) 1).trans rfl; have hz2 := (blk_cell (HD3.out.blk (i := 0) rfl) 2).trans rfl; have hf0 := blk_frozen (HD3.out.blk (i := 0) rfl) 0; have hf1 := blk_frozen (HD3.out.blk (i := 0) rfl) 1; have hf2 := blk_frozen (HD3.out.blk (i := 0) rfl) 2))
  have HV := Aside0.mk (Sn.start HT.out HD3.out)
  go_loopg [4] 11 (fun kq v4 w' => ∃ (x4 : Int), v4 = .int .i64 x4 ∧ Aside0 (0 ≤ x4 ∧ x4 + (kq : Int) = 11) ∧ Aside0 (Sn w0 w' g gs gr rows bs))
  case atStart => exact ⟨0, rfl, ⟨by omega⟩, ⟨SnV.put HV.out⟩⟩
  case round =>
    clear hz0 hz1 hz2 hf0 hf1 hf2
    clear HV HD3 HT
    obtain ⟨x4, rfl, HK, HD⟩ := hrel
    obtain ⟨t, A, xs, c, u, ok, ho, hd⟩ := HD.out
    have HE := Aside0.mk hd
    have HO := Aside0.mk ho
    clear HD hd ho
    go_wp2_with (first
      | (go_at_call 70; (with_reducible refine (below_dr (w0 := w0) (rows := CRow k64 64 w0 ok (.slice A xs.length c) xs :: rows) (bs := ⟨gs, #[.int .i64 t, .slice A xs.length c, .int .i64 u], 54⟩ :: ⟨gr, #[.int .i64 0, .slice none 0 0, .int .i64 0], 54⟩ :: bs) ?s1 12).mono ?_); (case s1 => exact (by repeat (first | (with_reducible exact HE.out) | (with_reducible apply Dr.drewN) | (with_reducible apply Dr.drew)))); rintro e w5 ⟨r12, rfl, hr, hd⟩; clear HE; (try clear hz0 hz1 hz2 hf0 hf1 hf2); have HE := Aside0.mk hd; have HR12 := Aside0.mk hr; clear hd hr; have hz0 : w5.cell? ⟨gs, 0, none⟩ = some (.int .i64 t) := (blk_cell (HE.out.blk (i := 0) rfl) 0).trans rfl; have hf0 := blk_frozen (HE.out.blk (i := 0) rfl) 0; have hz1 : w5.cell? ⟨gs, 1, none⟩ = some (.slice A xs.length c) := (blk_cell (HE.out.blk (i := 0) rfl) 1).trans rfl; have hf1 := blk_frozen (HE.out.blk (i := 0) rfl) 1; have hz2 : w5.cell? ⟨gs, 2, none⟩ = some (.int .i64 u) := (blk_cell (HE.out.blk (i := 0) rfl) 2).trans rfl; have hf2 := blk_frozen (HE.out.blk (i := 0) rfl) 2)
      | (go_at_call 70; (with_reducible refine (below_dr (w0 := w0) (rows := CRow k64 64 w0 ok (.slice A xs.length c) xs :: rows) (bs := ⟨gs, #[.int .i64 t, .slice A xs.length c, .int .i64 u], 54⟩ :: ⟨gr, #[.int .i64 0, .slice none 0 0, .int .i64 0], 54⟩ :: bs) ?s1 5).mono ?_); (case s1 => exact (by repeat (first | (with_reducible exact HE.out) | (with_reducible apply Dr.drewN) | (with_reducible apply Dr.drew)))); rintro e w5 ⟨r5, rfl, hr, hd⟩; clear HE hr; (try clear hz0 hz1 hz2 hf0 hf1 hf2); have HE := Aside0.mk hd; clear hd; have hz0 : w5.cell? ⟨gs, 0, none⟩ = some (.int .i64 t) := (blk_cell (HE.out.blk (i := 0) rfl) 0).trans rfl; have hf0 := blk_frozen (HE.out.blk (i := 0) rfl) 0; have hz1 : w5.cell? ⟨gs, 1, none⟩ = some (.slice A xs.length c) := (blk_cell (HE.out.blk (i := 0) rfl) 1).trans rfl; have hf1 := blk_frozen (HE.out.blk (i := 0) rfl) 1; have hz2 : w5.cell? ⟨gs, 2, none⟩ = some (.int .i64 u) := (blk_cell (HE.out.blk (i := 0) rfl) 2).trans rfl; have hf2 := blk_frozen (HE.out.blk (i := 0) rfl) 2)
      | ((with_reducible refine gate_dst (N := 54) rfl ?_); refine wp_any (fun W1 => Dr w0 W1 g (CRow k64 64 w0 ok (.slice A xs.length c) xs :: rows) (⟨gs, #[.int .i64 t, .slice A xs.length c, .int .i64 u], 54⟩ :: ⟨gr, #[.int .i64 0, .slice none 0 0, .int .i64 0], 54⟩ :: bs)) ?s1 ?_; (case s1 => exact (by repeat (first | (with_reducible exact HE.out) | (with_reducible apply Dr.drewN) | (with_reducible apply Dr.drew)))); intro w9 hp; clear HE; clear hz0 hz1 hz2 hf0 hf1 hf2; have HF := Aside0.mk hp; clear hp; have hz0 := (blk_cell (HF.out.blk (i := 0) rfl) 0).trans rfl; have hf0 := blk_frozen (HF.out.blk (i := 0) rfl) 0; have hz1 := (blk_cell (HF.out.blk (i := 0) rfl) 1).trans rfl; have hf1 := blk_frozen (HF.out.blk (i := 0) rfl) 1; have hz2 := (blk_cell (HF.out.blk (i := 0) rfl) 2).trans rfl; have hf2 := blk_frozen (HF.out.blk (i := 0) rfl) 2; have hy0 := (blk_cell (HF.out.blk (i := 1) rfl) 0).trans rfl; have hy1 := (blk_cell (HF.out.blk (i := 1) rfl) 1).trans rfl; have hy2 := (blk_cell (HF.out.blk (i := 1) rfl) 2).trans rfl; have hx0 := blk_frozen (HF.out.blk (i := 1) rfl) 0; have hx1 := blk_frozen (HF.out.blk (i := 1) rfl) 1; have hx2 := blk_frozen (HF.out.blk (i := 1) rfl) 2)
      | (go_at_call 44; refine (ready_dr (w0 := w0) (g := g) (ok := ok) (rows := rows) (bs := ⟨gs, #[.int .i64 t, .slice A xs.length c, .int .i64 u], 54⟩ :: ⟨gr, #[.int .i64 0, .slice none 0 0, .int .i64 0], 54⟩ :: bs) ?s1 HO.out).mono ?_; (case s1 => exact (by repeat (first | (with_reducible exact HE.out) | (with_reducible apply Dr.drewN) | (with_reducible apply Dr.drew)))); rintro e w6 ⟨t', A', xs', c', u', s_, v_, b_, ok', rfl, ho, hd⟩; clear hz0 hz1 hz2 hf0 hf1 hf2; have HV : Aside0 (SnV w0 w6 g gs gr t' (.slice A' xs'.length c') u' rows bs) := ⟨A', xs', c', ok', _, _, _, rfl, ho, hd⟩; have hz0 := (blk_cell (hd.blk (i := 0) rfl) 0).trans rfl; have hz1 := (blk_cell (hd.blk (i := 0) rfl) 1).trans rfl; have hz2 := (blk_cell (hd.blk (i := 0) rfl) 2).trans rfl; have hf0 := blk_frozen (hd.blk (i := 0) rfl) 0; have hf1 := blk_frozen (hd.blk (i := 0) rfl) 1; have hf2 := blk_frozen (hd.blk (i := 0) rfl) 2; clear hd ho HE))
    · refine cw_any (fun W1 => Dr w0 W1 g (CRow k64 64 w0 ok (.slice A xs.length c) xs :: rows) (⟨gs, #[.int .i64 t, .slice A xs.length c, .int .i64 u], 54⟩ :: ⟨gr, #[.int .i64 0, .slice none 0 0, .int .i64 0], 54⟩ :: bs)) ?s1 ?_
      (case s1 => exact (by repeat (first | (with_reducible exact HE.out) | (with_reducible apply Dr.drewN) | (with_reducible apply Dr.drew))))
      intro w9 hp
      clear hz0 hz1 hz2 hf0 hf1 hf2
      clear HE
      have HE := Aside0.mk hp.drew
      clear hp
      refine start_ (n := 8) (S := fun w' => w'.cell? ⟨gs, 0, none⟩ = some (.int .i64 t) ∧ w'.cell? ⟨gs, 1, none⟩ = some (.slice A xs.length c) ∧ w'.cell? ⟨gs, 2, none⟩ = some (.int .i64 u)) (ds := [7]) #[false, false, false, false, false, false, false, false] (by kernel_rfl) rfl rfl ⟨(blk_cell (HE.out.blk (i := 0) rfl) 0).trans rfl, (blk_cell (HE.out.blk (i := 0) rfl) 1).trans rfl, (blk_cell (HE.out.blk (i := 0) rfl) 2).trans rfl⟩ (fun hHeld => ?_); refine with_tabW spec_l08Sender.tab10 spec_l08Sender.bits10 (fun HT_ HW_ => ?_)
      generalize w9.drew = w_d at HE hHeld ⊢
      refine pure_ (i := 1) (N := some 40) (v := ?_) (a' := ?_) #[false, true, false, false, false, false, false, false] rfl rfl (any_of HT_.out (by kernel_rfl)) (fun _ _ _ h => h) (Or.inl ⟨by rfl, ?_⟩) ?_ ?_
      rotate_left
      · intro w'
        go_simp
        with_reducible rfl
      rotate_left
      · simp only [Act.put, List.setIfInBounds_toArray, List.set_cons_zero, List.set_cons_succ, i64_w, i32_w]
        rfl
      refine take_ (i := 0) (N := some 39) (v := ?_) (a' := ?_) #[true, true, false, false, false, false, false, false] rfl rfl (take_ofW HT_.out HW_.out (by kernel_rfl)) (fun _ _ _ h => h) (Or.inl ⟨by rfl, ?_⟩) hHeld ?_ ?_
      rotate_left
      · rintro w' ⟨s0, s1, s2⟩
        go_simp
        with_reducible rfl
      rotate_left
      · simp only [Act.put, List.setIfInBounds_toArray, List.set_cons_zero, List.set_cons_succ, i64_w, i32_w]
        rfl
      refine one_ (i := 2) (N := some 41) #[true, true, true, false, false, false, false, false] rfl rfl (one_of HT_.out (by kernel_rfl)) (by decide) (fun K hK => ?_)
      refine goes_ Try.func110 (by kernel_rfl) rfl #[.pointer (some ⟨g, 0, none⟩)] (by rfl) rfl rfl (by (try simp only [List.map_toArray, List.map_cons, List.map_nil]); first | done | rfl | (simp only [List.length_drop, List.length_take]; rfl)) ?_
      refine (bytes_dr w0 _ g _ _ HE.out).mono ?_
      rintro e w10 ⟨A1, c1, l1, ok1, rfl, hl1, hd⟩
      refine ⟨_, rfl, ?_⟩
      clear HE
      have HE := Aside0.mk hd
      have HL1 := Aside0.mk hl1
      clear hd hl1
      refine hK.out _ _ ⟨(blk_cell (HE.out.blk (i := 0) rfl) 0).trans rfl, (blk_cell (HE.out.blk (i := 0) rfl) 1).trans rfl, (blk_cell (HE.out.blk (i := 0) rfl) 2).trans rfl⟩ (fun hHeld => ?_)
      clear hK K
      refine norm_ (a' := ?_) ?_ ?_
      rotate_left
      · show Act.put _ (some 41) _ = _
        simp only [Act.put, List.setIfInBounds_toArray, List.set_cons_zero, List.set_cons_succ, i64_w, i32_w]
        rfl
      refine one_ (i := 3) (N := some 42) #[true, true, true, true, false, false, false, false] rfl rfl (one_of HT_.out (by kernel_rfl)) (by decide) (fun K hK => ?_)
      refine goes_ Try.func49 (by kernel_rfl) rfl #[.agg #[.int .i64 t, .slice A xs.length c, .int .i64 u], .slice A1 l1.length c1] (by rfl) rfl rfl (by (try simp only [List.map_toArray, List.map_cons, List.map_nil]); first | done | rfl | (simp only [List.length_drop, List.length_take]; rfl)) ?_
      refine (queue_dr HE.out HO.out HL1.out).mono ?_
      rintro e w11 ⟨t', A', xs', c', u', b', ok', rfl, ho', hd⟩
      refine ⟨_, rfl, ?_⟩
      clear HE
      have HE := Aside0.mk hd
      have HO2 := Aside0.mk ho'
      clear hd ho'
      refine hK.out _ _ ⟨(blk_cell (HE.out.blk (i := 0) rfl) 0).trans rfl, (blk_cell (HE.out.blk (i := 0) rfl) 1).trans rfl, (blk_cell (HE.out.blk (i := 0) rfl) 2).trans rfl⟩ (fun hHeld => ?_)
      clear hK K
      refine norm_ (a' := ?_) ?_ ?_
      rotate_left
      · show Act.put _ (some 42) _ = _
        simp only [Act.put, List.setIfInBounds_toArray, List.set_cons_zero, List.set_cons_succ, i64_w, i32_w]
        rfl
      refine pure_ (i := 4) (N := some 38) (v := ?_) (a' := ?_) #[true, true, true, true, true, false, false, false] rfl rfl (any_of HT_.out (by kernel_rfl)) (fun _ _ _ h => h) (Or.inl ⟨by rfl, ?_⟩) ?_ ?_
      rotate_left
      · intro w'
        go_simp
        with_reducible rfl
      rotate_left
      · simp only [Act.put, List.setIfInBounds_toArray, List.set_cons_zero, List.set_cons_succ, i64_w, i32_w]
        rfl
      refine pure_ (i := 5) (N := some 43) (v := ?_) (a' := ?_) #[true, true, true, true, true, true, false, false] rfl rfl (any_of HT_.out (by kernel_rfl)) (fun _ _ _ h => h) (Or.inl ⟨by rfl, ?_⟩) ?_ ?_
      rotate_left
      · intro w'
        go_simp
        with_reducible rfl
      rotate_left
      · simp only [Act.put, List.setIfInBounds_toArray, List.set_cons_zero, List.set_cons_succ, i64_w, i32_w]
        rfl
      refine pure_ (i := 6) (N := some 44) (v := ?_) (a' := ?_) #[true, true, true, true, true, true, true, false] rfl rfl (any_of HT_.out (by kernel_rfl)) (fun _ _ _ h => h) (Or.inl ⟨by rfl, ?_⟩) ?_ ?_
      rotate_left
      · intro w'
        go_simp
        with_reducible rfl
      rotate_left
      · simp only [Act.put, List.setIfInBounds_toArray, List.set_cons_zero, List.set_cons_succ, i64_w, i32_w]
        rfl
      refine last_ (i := 7) (N := none) #[true, true, true, true, true, true, true, true] rfl rfl (one_of HT_.out (by kernel_rfl)) (by decide) (fun K hK => ?_)
      have HV : Aside0 (SnV w0 w11 g gs gr t' (.slice A' xs'.length c') u' rows bs) := ⟨A', xs', c', ok', _, _, _, rfl, HO2.out, HE.out⟩
      have hz0 := (blk_cell (HE.out.blk (i := 0) rfl) 0).trans rfl
      have hz1 := (blk_cell (HE.out.blk (i := 0) rfl) 1).trans rfl
      have hz2 := (blk_cell (HE.out.blk (i := 0) rfl) 2).trans rfl
      have hf0 := blk_frozen (HE.out.blk (i := 0) rfl) 0
      have hf1 := blk_frozen (HE.out.blk (i := 0) rfl) 1
      have hf2 := blk_frozen (HE.out.blk (i := 0) rfl) 2
      clear hHeld
      refine skip_ (w1 := ?_) (by rfl) rfl ?_ ?_
      rotate_left
      · go_simp
        rfl
      refine hK.out _ _ ?_
      clear hK K
      refine done_ (done_of HT_.out (by kernel_rfl)) ?_
      go_wp2
      have e4 : wrap64 (x4 + 1) = x4 + 1 := Num.w64 (by have := HK.out; omega) (by have := HK.out; omega)
      obtain ⟨k1, rfl⟩ : ∃ k1, gk = k1 + 1 := ⟨gk - 1, by have := HK.out; have := HR12.out; omega⟩
      go_roundg k1
      case measure => omega
      case rel => exact ⟨x4 + 1, by rw [e4], ⟨by have := HK.out; omega⟩, ⟨SnV.put HV.out⟩⟩
    · refine cw_any (fun W1 => Dr w0 W1 g (CRow k64 64 w0 ok (.slice A xs.length c) xs :: rows) (⟨gs, #[.int .i64 t, .slice A xs.length c, .int .i64 u], 54⟩ :: ⟨gr, #[.int .i64 0, .slice none 0 0, .int .i64 0], 54⟩ :: bs)) ?s1 ?_
      (case s1 => exact (by repeat (first | (with_reducible exact HE.out) | (with_reducible apply Dr.drewN) | (with_reducible apply Dr.drew))))
      intro w9 hp
      clear hz0 hz1 hz2 hf0 hf1 hf2
      clear HE
      have HE := Aside0.mk hp.drew
      clear hp
      refine start_ (n := 8) (S := fun w' => w'.cell? ⟨gs, 0, none⟩ = some (.int .i64 t) ∧ w'.cell? ⟨gs, 1, none⟩ = some (.slice A xs.length c) ∧ w'.cell? ⟨gs, 2, none⟩ = some (.int .i64 u)) (ds := [7]) #[false, false, false, false, false, false, false, false] (by kernel_rfl) rfl rfl ⟨(blk_cell (HE.out.blk (i := 0) rfl) 0).trans rfl, (blk_cell (HE.out.blk (i := 0) rfl) 1).trans rfl, (blk_cell (HE.out.blk (i := 0) rfl) 2).trans rfl⟩ (fun hHeld => ?_); refine with_tabW spec_l08Sender.tab10 spec_l08Sender.bits10 (fun HT_ HW_ => ?_)
      generalize w9.drew = w_d at HE hHeld ⊢
      refine pure_ (i := 1) (N := some 40) (v := ?_) (a' := ?_) #[false, true, false, false, false, false, false, false] rfl rfl (any_of HT_.out (by kernel_rfl)) (fun _ _ _ h => h) (Or.inl ⟨by rfl, ?_⟩) ?_ ?_
      rotate_left
      · intro w'
        go_simp
        with_reducible rfl
      rotate_left
      · simp only [Act.put, List.setIfInBounds_toArray, List.set_cons_zero, List.set_cons_succ, i64_w, i32_w]
        rfl
      refine take_ (i := 0) (N := some 39) (v := ?_) (a' := ?_) #[true, true, false, false, false, false, false, false] rfl rfl (take_ofW HT_.out HW_.out (by kernel_rfl)) (fun _ _ _ h => h) (Or.inl ⟨by rfl, ?_⟩) hHeld ?_ ?_
      rotate_left
      · rintro w' ⟨s0, s1, s2⟩
        go_simp
        with_reducible rfl
      rotate_left
      · simp only [Act.put, List.setIfInBounds_toArray, List.set_cons_zero, List.set_cons_succ, i64_w, i32_w]
        rfl
      refine one_ (i := 2) (N := some 41) #[true, true, true, false, false, false, false, false] rfl rfl (one_of HT_.out (by kernel_rfl)) (by decide) (fun K hK => ?_)
      refine goes_ Try.func110 (by kernel_rfl) rfl #[.pointer (some ⟨g, 0, none⟩)] (by rfl) rfl rfl (by (try simp only [List.map_toArray, List.map_cons, List.map_nil]); first | done | rfl | (simp only [List.length_drop, List.length_take]; rfl)) ?_
      refine (bytes_dr w0 _ g _ _ HE.out).mono ?_
      rintro e w10 ⟨A1, c1, l1, ok1, rfl, hl1, hd⟩
      refine ⟨_, rfl, ?_⟩
      clear HE
      have HE := Aside0.mk hd
      have HL1 := Aside0.mk hl1
      clear hd hl1
      refine hK.out _ _ ⟨(blk_cell (HE.out.blk (i := 0) rfl) 0).trans rfl, (blk_cell (HE.out.blk (i := 0) rfl) 1).trans rfl, (blk_cell (HE.out.blk (i := 0) rfl) 2).trans rfl⟩ (fun hHeld => ?_)
      clear hK K
      refine norm_ (a' := ?_) ?_ ?_
      rotate_left
      · show Act.put _ (some 41) _ = _
        simp only [Act.put, List.setIfInBounds_toArray, List.set_cons_zero, List.set_cons_succ, i64_w, i32_w]
        rfl
      refine one_ (i := 3) (N := some 42) #[true, true, true, true, false, false, false, false] rfl rfl (one_of HT_.out (by kernel_rfl)) (by decide) (fun K hK => ?_)
      refine goes_ Try.func49 (by kernel_rfl) rfl #[.agg #[.int .i64 t, .slice A xs.length c, .int .i64 u], .slice A1 l1.length c1] (by rfl) rfl rfl (by (try simp only [List.map_toArray, List.map_cons, List.map_nil]); first | done | rfl | (simp only [List.length_drop, List.length_take]; rfl)) ?_
      refine (queue_dr HE.out HO.out HL1.out).mono ?_
      rintro e w11 ⟨t', A', xs', c', u', b', ok', rfl, ho', hd⟩
      refine ⟨_, rfl, ?_⟩
      clear HE
      have HE := Aside0.mk hd
      have HO2 := Aside0.mk ho'
      clear hd ho'
      refine hK.out _ _ ⟨(blk_cell (HE.out.blk (i := 0) rfl) 0).trans rfl, (blk_cell (HE.out.blk (i := 0) rfl) 1).trans rfl, (blk_cell (HE.out.blk (i := 0) rfl) 2).trans rfl⟩ (fun hHeld => ?_)
      clear hK K
      refine norm_ (a' := ?_) ?_ ?_
      rotate_left
      · show Act.put _ (some 42) _ = _
        simp only [Act.put, List.setIfInBounds_toArray, List.set_cons_zero, List.set_cons_succ, i64_w, i32_w]
        rfl
      refine pure_ (i := 4) (N := some 38) (v := ?_) (a' := ?_) #[true, true, true, true, true, false, false, false] rfl rfl (any_of HT_.out (by kernel_rfl)) (fun _ _ _ h => h) (Or.inl ⟨by rfl, ?_⟩) ?_ ?_
      rotate_left
      · intro w'
        go_simp
        with_reducible rfl
      rotate_left
      · simp only [Act.put, List.setIfInBounds_toArray, List.set_cons_zero, List.set_cons_succ, i64_w, i32_w]
        rfl
      refine pure_ (i := 5) (N := some 43) (v := ?_) (a' := ?_) #[true, true, true, true, true, true, false, false] rfl rfl (any_of HT_.out (by kernel_rfl)) (fun _ _ _ h => h) (Or.inl ⟨by rfl, ?_⟩) ?_ ?_
      rotate_left
      · intro w'
        go_simp
        with_reducible rfl
      rotate_left
      · simp only [Act.put, List.setIfInBounds_toArray, List.set_cons_zero, List.set_cons_succ, i64_w, i32_w]
        rfl
      refine pure_ (i := 6) (N := some 44) (v := ?_) (a' := ?_) #[true, true, true, true, true, true, true, false] rfl rfl (any_of HT_.out (by kernel_rfl)) (fun _ _ _ h => h) (Or.inl ⟨by rfl, ?_⟩) ?_ ?_
      rotate_left
      · intro w'
        go_simp
        with_reducible rfl
      rotate_left
      · simp only [Act.put, List.setIfInBounds_toArray, List.set_cons_zero, List.set_cons_succ, i64_w, i32_w]
        rfl
      refine last_ (i := 7) (N := none) #[true, true, true, true, true, true, true, true] rfl rfl (one_of HT_.out (by kernel_rfl)) (by decide) (fun K hK => ?_)
      have HV : Aside0 (SnV w0 w11 g gs gr t' (.slice A' xs'.length c') u' rows bs) := ⟨A', xs', c', ok', _, _, _, rfl, HO2.out, HE.out⟩
      have hz0 := (blk_cell (HE.out.blk (i := 0) rfl) 0).trans rfl
      have hz1 := (blk_cell (HE.out.blk (i := 0) rfl) 1).trans rfl
      have hz2 := (blk_cell (HE.out.blk (i := 0) rfl) 2).trans rfl
      have hf0 := blk_frozen (HE.out.blk (i := 0) rfl) 0
      have hf1 := blk_frozen (HE.out.blk (i := 0) rfl) 1
      have hf2 := blk_frozen (HE.out.blk (i := 0) rfl) 2
      clear hHeld
      refine skip_ (w1 := ?_) (by rfl) rfl ?_ ?_
      rotate_left
      · go_simp
        rfl
      refine hK.out _ _ ?_
      clear hK K
      refine done_ (done_of HT_.out (by kernel_rfl)) ?_
      go_wp2
      have e4 : wrap64 (x4 + 1) = x4 + 1 := Num.w64 (by have := HK.out; omega) (by have := HK.out; omega)
      obtain ⟨k1, rfl⟩ : ∃ k1, gk = k1 + 1 := ⟨gk - 1, by have := HK.out; have := HR12.out; omega⟩
      go_roundg k1
      case measure => omega
      case rel => exact ⟨x4 + 1, by rw [e4], ⟨by have := HK.out; omega⟩, ⟨SnV.put HV.out⟩⟩
    · have e4 : wrap64 (x4 + 1) = x4 + 1 := Num.w64 (by have := HK.out; omega) (by have := HK.out; omega)
      obtain ⟨k1, rfl⟩ : ∃ k1, gk = k1 + 1 := ⟨gk - 1, by have := HK.out; have := HR12.out; omega⟩
      go_roundg k1
      case measure => omega
      case rel => exact ⟨x4 + 1, by rw [e4], ⟨by have := HK.out; omega⟩, ⟨SnV.put HV.out⟩⟩
    · have e4 : wrap64 (x4 + 1) = x4 + 1 := Num.w64 (by have := HK.out; omega) (by have := HK.out; omega)
      obtain ⟨k1, rfl⟩ : ∃ k1, gk = k1 + 1 := ⟨gk - 1, by have := HK.out; have := HR12.out; omega⟩
      go_roundg k1
      case measure => omega
      case rel => exact ⟨x4 + 1, by rw [e4], ⟨by have := HK.out; omega⟩, ⟨SnV.put HV.out⟩⟩
    · refine cw_any (fun W1 => Dr w0 W1 g (CRow k64 64 w0 ok (.slice A xs.length c) xs :: rows) (⟨gs, #[.int .i64 t, .slice A xs.length c, .int .i64 u], 54⟩ :: ⟨gr, #[.int .i64 0, .slice none 0 0, .int .i64 0], 54⟩ :: bs)) ?s1 ?_
      (case s1 => exact (by repeat (first | (with_reducible exact HE.out) | (with_reducible apply Dr.drewN) | (with_reducible apply Dr.drew))))
      intro w9 hp
      clear hz0 hz1 hz2 hf0 hf1 hf2
      clear HE
      have HE := Aside0.mk hp.drew
      clear hp
      refine start_ (n := 16) (S := fun w' => w'.cell? ⟨gs, 0, none⟩ = some (.int .i64 t) ∧ w'.cell? ⟨gs, 1, none⟩ = some (.slice A xs.length c) ∧ w'.cell? ⟨gs, 2, none⟩ = some (.int .i64 u)) (ds := [15]) #[false, false, false, false, false, false, false, false, false, false, false, false, false, false, false, false] (by kernel_rfl) rfl rfl ⟨(blk_cell (HE.out.blk (i := 0) rfl) 0).trans rfl, (blk_cell (HE.out.blk (i := 0) rfl) 1).trans rfl, (blk_cell (HE.out.blk (i := 0) rfl) 2).trans rfl⟩ (fun hHeld => ?_); refine with_tabW spec_l08Sender.tab7 spec_l08Sender.bits7 (fun HT_ HW_ => ?_)
      generalize w9.drew = w_d at HE hHeld ⊢
      refine pure_ (i := 1) (N := some 22) (v := ?_) (a' := ?_) #[false, true, false, false, false, false, false, false, false, false, false, false, false, false, false, false] rfl rfl (any_of HT_.out (by kernel_rfl)) (fun _ _ _ h => h) (Or.inl ⟨by rfl, ?_⟩) ?_ ?_
      rotate_left
      · intro w'
        go_simp
        with_reducible rfl
      rotate_left
      · simp only [Act.put, List.setIfInBounds_toArray, List.set_cons_zero, List.set_cons_succ, i64_w, i32_w]
        rfl
      refine pure_ (i := 3) (N := some 24) (v := ?_) (a' := ?_) #[false, true, false, true, false, false, false, false, false, false, false, false, false, false, false, false] rfl rfl (any_of HT_.out (by kernel_rfl)) (fun _ _ _ h => h) (Or.inl ⟨by rfl, ?_⟩) ?_ ?_
      rotate_left
      · intro w'
        go_simp
        with_reducible rfl
      rotate_left
      · simp only [Act.put, List.setIfInBounds_toArray, List.set_cons_zero, List.set_cons_succ, i64_w, i32_w]
        rfl
      refine pure_ (i := 4) (N := some 25) (v := ?_) (a' := ?_) #[false, true, false, true, true, false, false, false, false, false, false, false, false, false, false, false] rfl rfl (any_of HT_.out (by kernel_rfl)) (fun _ _ _ h => h) (Or.inl ⟨by rfl, ?_⟩) ?_ ?_
      rotate_left
      · intro w'
        go_simp
        with_reducible rfl
      rotate_left
      · simp only [Act.put, List.setIfInBounds_toArray, List.set_cons_zero, List.set_cons_succ, i64_w, i32_w]
        rfl
      refine take_ (i := 0) (N := some 21) (v := ?_) (a' := ?_) #[true, true, false, true, true, false, false, false, false, false, false, false, false, false, false, false] rfl rfl (take_ofW HT_.out HW_.out (by kernel_rfl)) (fun _ _ _ h => h) (Or.inl ⟨by rfl, ?_⟩) hHeld ?_ ?_
      rotate_left
      · rintro w' ⟨s0, s1, s2⟩
        go_simp
        with_reducible rfl
      rotate_left
      · simp only [Act.put, List.setIfInBounds_toArray, List.set_cons_zero, List.set_cons_succ, i64_w, i32_w]
        rfl
      refine take_ (i := 2) (N := some 23) (v := ?_) (a' := ?_) #[true, true, true, true, true, false, false, false, false, false, false, false, false, false, false, false] rfl rfl (take_ofW HT_.out HW_.out (by kernel_rfl)) (fun _ _ _ h => h) (Or.inl ⟨by rfl, ?_⟩) hHeld ?_ ?_
      rotate_left
      · rintro w' ⟨s0, s1, s2⟩
        go_simp
        with_reducible rfl
      rotate_left
      · simp only [Act.put, List.setIfInBounds_toArray, List.set_cons_zero, List.set_cons_succ, i64_w, i32_w]
        rfl
      refine take_ (i := 5) (N := some 26) (v := ?_) (a' := ?_) #[true, true, true, true, true, true, false, false, false, false, false, false, false, false, false, false] rfl rfl (take_ofW HT_.out HW_.out (by kernel_rfl)) (fun _ _ _ h => h) (Or.inl ⟨by rfl, ?_⟩) hHeld ?_ ?_
      rotate_left
      · rintro w' ⟨s0, s1, s2⟩
        go_simp
        with_reducible rfl
      rotate_left
      · simp only [Act.put, List.setIfInBounds_toArray, List.set_cons_zero, List.set_cons_succ, i64_w, i32_w]
        rfl
      refine pure_ (i := 6) (N := some 27) (v := ?_) (a' := ?_) #[true, true, true, true, true, true, true, false, false, false, false, false, false, false, false, false] rfl rfl (any_of HT_.out (by kernel_rfl)) (fun _ _ _ h => h) (Or.inl ⟨by rfl, ?_⟩) ?_ ?_
      rotate_left
      · intro w'
        go_simp
        with_reducible rfl
      rotate_left
      · simp only [Act.put, List.setIfInBounds_toArray, List.set_cons_zero, List.set_cons_succ, i64_w, i32_w]
        rfl
      refine one_ (i := 7) (N := some 28) #[true, true, true, true, true, true, true, true, false, false, false, false, false, false, false, false] rfl rfl (one_of HT_.out (by kernel_rfl)) (by decide) (fun K hK => ?_)
      refine goes_ Try.func70 (by kernel_rfl) rfl #[.pointer (some ⟨g, 0, none⟩), .int .i64 (xs.length : Int)] (by rfl) rfl rfl (by (try simp only [List.map_toArray, List.map_cons, List.map_nil]); first | done | rfl | (simp only [List.length_drop, List.length_take]; rfl)) ?_
      refine (below_dr HE.out (xs.length : Int)).mono ?_
      rintro e w10 ⟨r7, rfl, hr7, hd⟩
      refine ⟨_, rfl, ?_⟩
      clear HE
      have HE := Aside0.mk hd
      have p7 : 0 ≤ r7 := hr7.1
      have q7 : r7 < (xs.length : Int) := hr7.2.1 (by omega)
      clear hd hr7
      refine hK.out _ _ ⟨(blk_cell (HE.out.blk (i := 0) rfl) 0).trans rfl, (blk_cell (HE.out.blk (i := 0) rfl) 1).trans rfl, (blk_cell (HE.out.blk (i := 0) rfl) 2).trans rfl⟩ (fun hHeld => ?_)
      clear hK K
      refine norm_ (a' := ?_) ?_ ?_
      rotate_left
      · show Act.put _ (some 28) _ = _
        simp only [Act.put, List.setIfInBounds_toArray, List.set_cons_zero, List.set_cons_succ, i64_w, i32_w]
        rfl
      obtain ⟨ad, A1, c1, e7, hx0, _⟩ := at_T64 (Kd.Q_reads' (HE.out.has (i := 0) rfl)).2.2 r7 p7 q7
      cases e7
      have HX := Aside0.mk hx0
      clear hx0
      replace p7 := eq_true p7
      replace q7 := eq_true q7
      refine pure_ (i := 8) (N := some 29) (v := ?_) (a' := ?_) #[true, true, true, true, true, true, true, true, true, false, false, false, false, false, false, false] rfl rfl (any_of HT_.out (by kernel_rfl)) (fun _ _ _ h => h) (Or.inl ⟨by rfl, ?_⟩) ?_ ?_
      rotate_left
      · intro w'
        go_simp
        with_reducible rfl
      rotate_left
      · simp only [Act.put, List.setIfInBounds_toArray, List.set_cons_zero, List.set_cons_succ, i64_w, i32_w]
        rfl
      refine pure_ (i := 9) (N := some 30) (v := ?_) (a' := ?_) #[true, true, true, true, true, true, true, true, true, true, false, false, false, false, false, false] rfl rfl (any_of HT_.out (by kernel_rfl)) (fun _ _ _ h => h) (Or.inl ⟨by rfl, ?_⟩) ?_ ?_
      rotate_left
      · intro w'
        go_simp
        with_reducible rfl
      rotate_left
      · simp only [Act.put, List.setIfInBounds_toArray, List.set_cons_zero, List.set_cons_succ, i64_w, i32_w]
        rfl
      refine one_ (i := 10) (N := some 31) #[true, true, true, true, true, true, true, true, true, true, true, false, false, false, false, false] rfl rfl (one_of HT_.out (by kernel_rfl)) (by decide) (fun K hK => ?_)
      have hx0 := HX.out
      refine value_ (w1 := ?_) (v := ?_) (by rfl) rfl ?_ ?_
      rotate_left 2
      · go_simp
        constructor
        · rfl
        · rfl
      clear hx0
      refine hK.out _ _ ⟨(blk_cell (HE.out.blk (i := 0) rfl) 0).trans rfl, (blk_cell (HE.out.blk (i := 0) rfl) 1).trans rfl, (blk_cell (HE.out.blk (i := 0) rfl) 2).trans rfl⟩ (fun hHeld => ?_)
      clear hK K
      refine norm_ (a' := ?_) ?_ ?_
      rotate_left
      · show Act.put _ (some 31) _ = _
        simp only [Act.put, List.setIfInBounds_toArray, List.set_cons_zero, List.set_cons_succ, i64_w, i32_w]
        rfl
      refine one_ (i := 11) (N := some 32) #[true, true, true, true, true, true, true, true, true, true, true, true, false, false, false, false] rfl rfl (one_of HT_.out (by kernel_rfl)) (by decide) (fun K hK => ?_)
      refine goes_ Try.func42 (by kernel_rfl) rfl #[.agg #[.int .i64 t, .slice (some ad) xs.length c, .int .i64 u], .int .i64 (rd_T64 xs r7).f0] (by rfl) rfl rfl (by (try simp only [List.map_toArray, List.map_cons, List.map_nil]); first | done | rfl | (simp only [List.length_drop, List.length_take]; rfl)) ?_
      refine (ack_dr HE.out HO.out _).mono ?_
      rintro e w11 ⟨t', A', xs', c', u', b', ok', rfl, ho', hd⟩
      refine ⟨_, rfl, ?_⟩
      clear HE HX
      have HE := Aside0.mk hd
      have HO2 := Aside0.mk ho'
      clear hd ho'
      refine hK.out _ _ ⟨(blk_cell (HE.out.blk (i := 0) rfl) 0).trans rfl, (blk_cell (HE.out.blk (i := 0) rfl) 1).trans rfl, (blk_cell (HE.out.blk (i := 0) rfl) 2).trans rfl⟩ (fun hHeld => ?_)
      clear hK K
      refine norm_ (a' := ?_) ?_ ?_
      rotate_left
      · show Act.put _ (some 32) _ = _
        simp only [Act.put, List.setIfInBounds_toArray, List.set_cons_zero, List.set_cons_succ, i64_w, i32_w]
        rfl
      refine pure_ (i := 12) (N := some 20) (v := ?_) (a' := ?_) #[true, true, true, true, true, true, true, true, true, true, true, true, true, false, false, false] rfl rfl (any_of HT_.out (by kernel_rfl)) (fun _ _ _ h => h) (Or.inl ⟨by rfl, ?_⟩) ?_ ?_
      rotate_left
      · intro w'
        go_simp
        with_reducible rfl
      rotate_left
      · simp only [Act.put, List.setIfInBounds_toArray, List.set_cons_zero, List.set_cons_succ, i64_w, i32_w]
        rfl
      refine pure_ (i := 13) (N := some 33) (v := ?_) (a' := ?_) #[true, true, true, true, true, true, true, true, true, true, true, true, true, true, false, false] rfl rfl (any_of HT_.out (by kernel_rfl)) (fun _ _ _ h => h) (Or.inl ⟨by rfl, ?_⟩) ?_ ?_
      rotate_left
      · intro w'
        go_simp
        with_reducible rfl
      rotate_left
      · simp only [Act.put, List.setIfInBounds_toArray, List.set_cons_zero, List.set_cons_succ, i64_w, i32_w]
        rfl
      refine pure_ (i := 14) (N := some 34) (v := ?_) (a' := ?_) #[true, true, true, true, true, true, true, true, true, true, true, true, true, true, true, false] rfl rfl (any_of HT_.out (by kernel_rfl)) (fun _ _ _ h => h) (Or.inl ⟨by rfl, ?_⟩) ?_ ?_
      rotate_left
      · intro w'
        go_simp
        with_reducible rfl
      rotate_left
      · simp only [Act.put, List.setIfInBounds_toArray, List.set_cons_zero, List.set_cons_succ, i64_w, i32_w]
        rfl
      refine last_ (i := 15) (N := none) #[true, true, true, true, true, true, true, true, true, true, true, true, true, true, true, true] rfl rfl (one_of HT_.out (by kernel_rfl)) (by decide) (fun K hK => ?_)
      have HV : Aside0 (SnV w0 w11 g gs gr t' (.slice A' xs'.length c') u' rows bs) := ⟨A', xs', c', ok', _, _, _, rfl, HO2.out, HE.out⟩
      have hz0 := (blk_cell (HE.out.blk (i := 0) rfl) 0).trans rfl
      have hz1 := (blk_cell (HE.out.blk (i := 0) rfl) 1).trans rfl
      have hz2 := (blk_cell (HE.out.blk (i := 0) rfl) 2).trans rfl
      have hf0 := blk_frozen (HE.out.blk (i := 0) rfl) 0
      have hf1 := blk_frozen (HE.out.blk (i := 0) rfl) 1
      have hf2 := blk_frozen (HE.out.blk (i := 0) rfl) 2
      clear hHeld
      refine skip_ (w1 := ?_) (by rfl) rfl ?_ ?_
      rotate_left
      · go_simp
        rfl
      refine hK.out _ _ ?_
      clear hK K
      refine done_ (done_of HT_.out (by kernel_rfl)) ?_
      go_wp2
      have e4 : wrap64 (x4 + 1) = x4 + 1 := Num.w64 (by have := HK.out; omega) (by have := HK.out; omega)
      obtain ⟨k1, rfl⟩ : ∃ k1, gk = k1 + 1 := ⟨gk - 1, by have := HK.out; have := HR12.out; omega⟩
      go_roundg k1
      case measure => omega
      case rel => exact ⟨x4 + 1, by rw [e4], ⟨by have := HK.out; omega⟩, ⟨SnV.put HV.out⟩⟩
    · have e4 : wrap64 (x4 + 1) = x4 + 1 := Num.w64 (by have := HK.out; omega) (by have := HK.out; omega)
      obtain ⟨k1, rfl⟩ : ∃ k1, gk = k1 + 1 := ⟨gk - 1, by have := HK.out; have := HR12.out; omega⟩
      go_roundg k1
      case measure => omega
      case rel => exact ⟨x4 + 1, by rw [e4], ⟨by have := HK.out; omega⟩, ⟨⟨t, A, xs, c, u, ok, HO.out, HE.out⟩⟩⟩
    · have hf := (Dr.put (bs := ⟨gs, #[.int .i64 t, .slice A xs.length c, .int .i64 u], 54⟩ :: ⟨gr, #[.int .i64 t, .slice A xs.length c, .int .i64 0], 54⟩ :: bs) (Dr.put (bs := ⟨gs, #[.int .i64 t, .slice A xs.length c, .int .i64 u], 54⟩ :: ⟨gr, #[.int .i64 t, .slice none 0 0, .int .i64 0], 54⟩ :: bs) (Dr.put (bs := ⟨gs, #[.int .i64 t, .slice A xs.length c, .int .i64 u], 54⟩ :: ⟨gr, #[.int .i64 0, .slice none 0 0, .int .i64 0], 54⟩ :: bs) HF.out 1 rfl 0 (.int .i64 t) rfl rfl) 1 rfl 1 (.slice A xs.length c) rfl rfl) 1 rfl 2 (.int .i64 u) rfl rfl)
      refine bodyPost_ret (results_cell_row rfl _ _ gr 54 #[.int .i64 t, .slice A xs.length c, .int .i64 u] (0, 0) _ rfl (by exact hf.blk (i := 1) rfl) Try.underlying54 rfl (by kernel_rfl)) rfl ?_
      first | exact ⟨t, A, xs, c, u, ok, rfl, HO.out, hf.dropbox.dropbox⟩ | exact ⟨t, A, xs, c, u, rfl, HO.out, ok, hf.dropbox.dropbox⟩
theorem Dr.of {w0 W : World} {g gr : Nat} {f0 : List Int} {f1 f2 : Int} {cs : Array Value} (h : Inv w0 W [] [⟨gr, cs, 54⟩]) (hI : IsS102 w0 W g f0 f1 f2) (hc : Cur f0 f1) : Dr w0 W g [] [⟨gr, cs, 54⟩] := by
  obtain ⟨A0, c0, hb, hg, hr⟩ := hI
  have hb2 := h.blk (i := 0) rfl
  refine ⟨A0, c0, f0, f1, f2, hc, hr, h.below, by simp, .nil, ?_, ?_, by simp⟩
  · intro b hb1
    rcases List.mem_cons.mp hb1 with rfl | hb1
    · exact ⟨hb, hg⟩
    · exact h.box b hb1
  · refine List.pairwise_cons.mpr ⟨?_, h.bapart⟩
    intro b hb1
    obtain rfl := List.mem_singleton.mp hb1
    exact blk_ne hb hb2 (by decide)
/-- A drawn sender. -/
theorem draw_sender (A : Option Addr) (c : Nat) (l : List Int) (w : World) (hr : Kd.C (Kd.int .u8) w A l.length l) (hc : l.length ≤ c) (hl : l.length ≤ 1048576) (hb : ∀ x ∈ l, (Lit.int .u8 x).wf = true) :
    Calls Try.prog 54 #[.slice A l.length c] w fun e w' => ∃ (t : Int) (A' : Option Addr) (xs : List S64) (c' : Nat) (u : Int), e = .returned (.agg #[.int .i64 t, .slice A' xs.length c', .int .i64 u]) ∧ okS t xs u ∧ Kd.Q k64 64 w' w.heap.size (fun _ => True) (.slice A' xs.length c') xs ∧ Below w.heap.size w w' := by
  have hu54 := Try.underlying54
  obtain ⟨h0, en, cu⟩ := new_cur l hl hb 4001 (by omega)
  have HN := Aside0.mk en
  have HC := Aside0.mk cu
  have HR := Aside0.mk hr
  have HCC := Aside0.mk hc
  have HI := Aside0.mk (Inv.start w)
  clear en cu hr hc hl hb
  go_enter Try.func54, Try.ntmps54
  go_wp2_with (first
    | ((with_reducible refine gate_dst (N := 2) rfl ?_); refine box_event ?hg (N := 2) ?hd (cs := #[.int .i64 0, .slice none 0 0, .int .i64 0]) (t := 54) ?hr ?_; (case hd => rfl); (case hg => rfl); (case hr => first | (go_simp; done) | (go_simp; rfl)); intro gr hg W2 hbox hb; have HI1 := Aside0.mk (Inv.newbox HI.out hb hg hbox); clear HI hg hbox hb)
    | (go_at_call 57; refine (spec_l01New.calls 4001 A c l l 0 h0 w _ ?s1 HR.out HCC.out HN.out).mono ?_; (case s1 => exact (by repeat (first | (with_reducible exact HI1.out.below) | (with_reducible apply pw_below_drewN) | (with_reducible apply below_drew1)))); rintro e w3 ⟨g, rfl, hI, -, hb⟩; have HD := Aside0.mk (Dr.of (HI1.out.call hb) hI HC.out); clear hI hb HI1)
    | (go_at_call 98; refine (sender_dr w _ g [] [⟨gr, #[.int .i64 0, .slice none 0 0, .int .i64 0], 54⟩] ?s1).mono ?_; (case s1 => exact (by repeat (first | (with_reducible exact HD.out) | (with_reducible apply Dr.drewN) | (with_reducible apply Dr.drew)))); rintro e w4 ⟨t, A', xs, c', u, ok, rfl, ho, hd⟩; clear HD; have HE := Aside0.mk hd; have HO := Aside0.mk ho; clear hd ho; have hy0 := (blk_cell (HE.out.blk (i := 0) rfl) 0).trans rfl; have hy1 := (blk_cell (HE.out.blk (i := 0) rfl) 1).trans rfl; have hy2 := (blk_cell (HE.out.blk (i := 0) rfl) 2).trans rfl; have hx0 := blk_frozen (HE.out.blk (i := 0) rfl) 0; have hx1 := blk_frozen (HE.out.blk (i := 0) rfl) 1; have hx2 := blk_frozen (HE.out.blk (i := 0) rfl) 2))
  have hf := (Dr.put (bs := [⟨gr, #[.int .i64 t, .slice A' xs.length c', .int .i64 0], 54⟩]) (Dr.put (bs := [⟨gr, #[.int .i64 t, .slice none 0 0, .int .i64 0], 54⟩]) (Dr.put (bs := [⟨gr, #[.int .i64 0, .slice none 0 0, .int .i64 0], 54⟩]) HE.out 0 rfl 0 (.int .i64 t) rfl rfl) 0 rfl 1 (.slice A' xs.length c') rfl rfl) 0 rfl 2 (.int .i64 u) rfl rfl)
  refine bodyPost_ret (results_cell_row rfl _ _ gr 54 #[.int .i64 t, .slice A' xs.length c', .int .i64 u] (0, 0) _ rfl (by exact hf.blk (i := 0) rfl) Try.underlying54 rfl (by kernel_rfl)) rfl ?_
  exact ⟨t, A', xs, c', u, rfl, HO.out, Kd.Q_mono (hf.has (i := 0) rfl) (fun _ _ => trivial), hf.below⟩

end Go.Proofs.Ytdnekkbchlibhaa.PFnSenders
