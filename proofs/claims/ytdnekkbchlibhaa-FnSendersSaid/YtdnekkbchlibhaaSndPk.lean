/- The reference's l04Packet and l08Bytes answer at a cursor: a packet with a short row, a short row. Conditions: the cursor stands in its bytes. -/
import Derived.Test.YtdnekkbchlibhaaSndPk0
namespace Go.Proofs.Ytdnekkbchlibhaa.PFnSenders
open Go.RowKit Go.Proofs.YtdnekkbchlibhaaW.PrintWords Go.Proofs.YtdnekkbchlibhaaW.PrintLast Go.Proofs.YtdnekkbchlibhaaW.PrintMore Go.Proofs.Ytdnekkbchlibhaa.Pure Go.Proofs.Ytdnekkbchlibhaa.Own
attribute [local go_sem] max2_int min2_int max_two min_two max_three min_three max_four min_four   -- for this text's walks alone
set_option linter.unusedVariables false
set_option linter.unusedSimpArgs false


set_option maxHeartbeats 16000000 in
set_option maxRecDepth 100000 in
theorem packet_dr (w0 W : World) (g : Nat) (rows : List MRow) (bs : List MBox) (h : Dr w0 W g rows bs) :
    Calls Try.prog 56 #[.pointer (some ⟨g, 0, none⟩)] W fun e W' => ∃ (a0 a1 a2 a3 a4 a5 a6 : Int) (A : Option Addr) (c : Nat) (l : List Int) (ok : Nat → Prop), e = .returned (.agg #[.int .i64 a0, .int .i64 a1, .int .i64 a2, .int .i64 a3, .int .i64 a4, .int .i64 a5, .int .i64 a6, .slice A l.length c]) ∧ l.length ≤ 100 ∧ Dr w0 W' g (RRow (Kd.int .i64) 3 w0 ok (.slice A l.length c) l :: rows) bs := by
  have hu26 := Try.underlying26
  have HD0 := Aside0.mk h
  clear h
  go_enter Try.func56, Try.ntmps56
  go_wp2_with (first
    | ((with_reducible refine gate_dst (N := 2) rfl ?_); refine box_event ?hg (N := 2) ?hd (cs := #[.int .i64 0, .int .i64 0, .int .i64 0, .int .i64 0, .int .i64 0, .int .i64 0, .int .i64 0, .slice none 0 0]) (t := 26) ?hr ?_; (case hd => rfl); (case hg => rfl); (case hr => first | (go_simp; done) | (go_simp; rfl)); intro gr hg W2 hbox hb; have HD1 := Aside0.mk (Dr.newbox HD0.out hb hg hbox); clear HD0 hg hbox hb)
    | ((with_reducible refine gate_dst (N := 3) rfl ?_); refine box_event ?hg (N := 3) ?hd (cs := #[.int .i64 0, .int .i64 0, .int .i64 0, .int .i64 0, .int .i64 0, .int .i64 0, .int .i64 0, .slice none 0 0]) (t := 26) ?hr ?_; (case hd => rfl); (case hg => rfl); (case hr => first | (go_simp; done) | (go_simp; rfl)); intro gp hg W3 hbox hb; have HD := Aside0.mk (Pk.start (Dr.newbox (by repeat (first | (with_reducible exact HD1.out) | (with_reducible apply Dr.drewN) | (with_reducible apply Dr.drew))) hb hg hbox)); clear HD1 hg hbox hb; obtain ⟨a0, a1, a2, a3, a4, a5, a6, A_, n_, c_, ⟨hz0, hz1, hz2, hz3, hz4, hz5, hz6, hz7⟩, hf0, hf1, hf2, hf3, hf4, hf5, hf6, hf7⟩ := HD.out.cells)
    | (go_at_call 70; refine (below_dr (w0 := w0) (rows := rows) (bs := ⟨gr, #[.int .i64 0, .int .i64 0, .int .i64 0, .int .i64 0, .int .i64 0, .int .i64 0, .int .i64 0, .slice none 0 0], 26⟩ :: bs) ?s1 _).mono ?_; (case s1 => exact (by repeat (first | (with_reducible exact HD1.out) | (with_reducible apply Dr.drewN) | (with_reducible apply Dr.drew)))); rintro e w5 ⟨r, rfl, hr, hd⟩; clear HD1; have HD1 := Aside0.mk hd; have HRr := Aside0.mk hr; clear hd hr)
    | (go_at_call 70; refine (Pk.below_pk (w0 := w0) (gp := gp) (gr := gr) (rows := rows) (bs := bs) ?s1 _).mono ?_; (case s1 => exact (by repeat (first | (with_reducible exact HD.out) | (with_reducible apply Pk.drewN) | (with_reducible apply Pk.drew) | (with_reducible apply Pk.put0) | (with_reducible apply Pk.put1) | (with_reducible apply Pk.put2) | (with_reducible apply Pk.put3) | (with_reducible apply Pk.put4) | (with_reducible apply Pk.put5) | (with_reducible apply Pk.put6) | (with_reducible apply Pk.nil) | (with_reducible exact PkV.put _ HV.out)))); rintro e w5 ⟨r, rfl, hr, hd⟩; have HRr := Aside0.mk hr; clear hr; clear HD; clear hz0 hz1 hz2 hz3 hz4 hz5 hz6 hz7 hf0 hf1 hf2 hf3 hf4 hf5 hf6 hf7; have HD := Aside0.mk hd; clear hd; obtain ⟨a0, a1, a2, a3, a4, a5, a6, A_, n_, c_, ⟨hz0, hz1, hz2, hz3, hz4, hz5, hz6, hz7⟩, hf0, hf1, hf2, hf3, hf4, hf5, hf6, hf7⟩ := HD.out.cells)
    | (go_at_call 77; refine (Pk.pick_pk (w0 := w0) (gp := gp) (gr := gr) (rows := rows) (bs := bs) ?s1 _ HT.out).mono ?_; (case s1 => exact (by repeat (first | (with_reducible exact HD.out) | (with_reducible apply Pk.drewN) | (with_reducible apply Pk.drew) | (with_reducible apply Pk.put0) | (with_reducible apply Pk.put1) | (with_reducible apply Pk.put2) | (with_reducible apply Pk.put3) | (with_reducible apply Pk.put4) | (with_reducible apply Pk.put5) | (with_reducible apply Pk.put6) | (with_reducible apply Pk.nil) | (with_reducible exact PkV.put _ HV.out)))); rintro e w5 ⟨r, rfl, hd⟩; clear HT; clear HD; clear hz0 hz1 hz2 hz3 hz4 hz5 hz6 hz7 hf0 hf1 hf2 hf3 hf4 hf5 hf6 hf7; have HD := Aside0.mk hd; clear hd; obtain ⟨a0, a1, a2, a3, a4, a5, a6, A_, n_, c_, ⟨hz0, hz1, hz2, hz3, hz4, hz5, hz6, hz7⟩, hf0, hf1, hf2, hf3, hf4, hf5, hf6, hf7⟩ := HD.out.cells)
    | (go_at_call 99; refine (Pk.data_pk (w0 := w0) (gp := gp) (gr := gr) (rows := rows) (bs := bs) ?s1 _ ?hn).mono ?_; (case s1 => exact (by repeat (first | (with_reducible exact HD.out) | (with_reducible apply Pk.drewN) | (with_reducible apply Pk.drew) | (with_reducible apply Pk.put0) | (with_reducible apply Pk.put1) | (with_reducible apply Pk.put2) | (with_reducible apply Pk.put3) | (with_reducible apply Pk.put4) | (with_reducible apply Pk.put5) | (with_reducible apply Pk.put6) | (with_reducible apply Pk.nil) | (with_reducible exact PkV.put _ HV.out)))); (case hn => first | decide | (have h_ := HRr.out; rw [Num.w64 (by omega) (by omega)]; omega)); rintro e w5 ⟨Av_, nv_, cv_, rfl, hd, hv⟩; have HV := Aside0.mk hv; clear hv; clear HD; clear hz0 hz1 hz2 hz3 hz4 hz5 hz6 hz7 hf0 hf1 hf2 hf3 hf4 hf5 hf6 hf7; have HD := Aside0.mk hd; clear hd; obtain ⟨a0, a1, a2, a3, a4, a5, a6, A_, n_, c_, ⟨hz0, hz1, hz2, hz3, hz4, hz5, hz6, hz7⟩, hf0, hf1, hf2, hf3, hf4, hf5, hf6, hf7⟩ := HD.out.cells)
    | ((with_reducible refine gate_dst (N := 27) rfl ?_); refine Kd.R_lit (Kd.int .i64) _ 3 ?hg (N := 27) ?hd (xs := ([0, 100, 4096, 65528, r] : List Int)) (inner := [.int .i64 0, .int .i64 100, .int .i64 4096, .int .i64 65528, .int .i64 r]) (ok := fun _ => True) (okp := fun _ => True) ?hr ?hp (fun _ hk => hk) trivial (Below.refl _ _) (Nat.le_refl _) (by simp) ?_; (case hd => rfl); (case hg => rfl); (case hr => first | (go_simp; done) | (go_simp; rfl)); (case hp => exact (Reps.one (show Kd.M (Kd.int .i64) _ _ _ (0) [.int .i64 (0)] from rfl) (Reps.one (show Kd.M (Kd.int .i64) _ _ _ (100) [.int .i64 (100)] from rfl) (Reps.one (show Kd.M (Kd.int .i64) _ _ _ (4096) [.int .i64 (4096)] from rfl) (Reps.one (show Kd.M (Kd.int .i64) _ _ _ (65528) [.int .i64 (65528)] from rfl) (Reps.one (show Kd.M (Kd.int .i64) _ _ _ (r) [.int .i64 (r)] from rfl) (Reps.none _ _))))))); intro v8 w8 ho hb hg_ hnew_; clear hg_ hnew_; have n0_ := Pk.lit2 (w0 := w0) (g := g) (gp := gp) (gr := gr) (rows := rows) (bs := bs) hb ho (by simp); have n1_ := n0_ (by repeat (first | (with_reducible exact HD.out) | (with_reducible apply Pk.drewN) | (with_reducible apply Pk.drew) | (with_reducible apply Pk.put0) | (with_reducible apply Pk.put1) | (with_reducible apply Pk.put2) | (with_reducible apply Pk.put3) | (with_reducible apply Pk.put4) | (with_reducible apply Pk.put5) | (with_reducible apply Pk.put6) | (with_reducible apply Pk.nil) | (with_reducible exact PkV.put _ HV.out))); clear n0_ ho hb; obtain ⟨hd, hT⟩ := n1_; have HT := Aside0.mk hT; clear hT; clear HD; clear hz0 hz1 hz2 hz3 hz4 hz5 hz6 hz7 hf0 hf1 hf2 hf3 hf4 hf5 hf6 hf7; have HD := Aside0.mk hd; clear hd; obtain ⟨a0, a1, a2, a3, a4, a5, a6, A_, n_, c_, ⟨hz0, hz1, hz2, hz3, hz4, hz5, hz6, hz7⟩, hf0, hf1, hf2, hf3, hf4, hf5, hf6, hf7⟩ := HD.out.cells)
    | ((with_reducible refine gate_dst (N := 33) rfl ?_); refine Kd.R_lit (Kd.int .i64) _ 3 ?hg (N := 33) ?hd (xs := ([1, 4, 8, 20, 64] : List Int)) (inner := [.int .i64 1, .int .i64 4, .int .i64 8, .int .i64 20, .int .i64 64]) (ok := fun _ => True) (okp := fun _ => True) ?hr ?hp (fun _ hk => hk) trivial (Below.refl _ _) (Nat.le_refl _) (by simp) ?_; (case hd => rfl); (case hg => rfl); (case hr => first | (go_simp; done) | (go_simp; rfl)); (case hp => exact (Reps.one (show Kd.M (Kd.int .i64) _ _ _ (1) [.int .i64 (1)] from rfl) (Reps.one (show Kd.M (Kd.int .i64) _ _ _ (4) [.int .i64 (4)] from rfl) (Reps.one (show Kd.M (Kd.int .i64) _ _ _ (8) [.int .i64 (8)] from rfl) (Reps.one (show Kd.M (Kd.int .i64) _ _ _ (20) [.int .i64 (20)] from rfl) (Reps.one (show Kd.M (Kd.int .i64) _ _ _ (64) [.int .i64 (64)] from rfl) (Reps.none _ _))))))); intro v8 w8 ho hb hg_ hnew_; clear hg_ hnew_; have n0_ := Pk.lit2 (w0 := w0) (g := g) (gp := gp) (gr := gr) (rows := rows) (bs := bs) hb ho (by simp); have n1_ := n0_ (by repeat (first | (with_reducible exact HD.out) | (with_reducible apply Pk.drewN) | (with_reducible apply Pk.drew) | (with_reducible apply Pk.put0) | (with_reducible apply Pk.put1) | (with_reducible apply Pk.put2) | (with_reducible apply Pk.put3) | (with_reducible apply Pk.put4) | (with_reducible apply Pk.put5) | (with_reducible apply Pk.put6) | (with_reducible apply Pk.nil) | (with_reducible exact PkV.put _ HV.out))); clear n0_ ho hb; obtain ⟨hd, hT⟩ := n1_; have HT := Aside0.mk hT; clear hT; clear HD; clear hz0 hz1 hz2 hz3 hz4 hz5 hz6 hz7 hf0 hf1 hf2 hf3 hf4 hf5 hf6 hf7; have HD := Aside0.mk hd; clear hd; obtain ⟨a0, a1, a2, a3, a4, a5, a6, A_, n_, c_, ⟨hz0, hz1, hz2, hz3, hz4, hz5, hz6, hz7⟩, hf0, hf1, hf2, hf3, hf4, hf5, hf6, hf7⟩ := HD.out.cells)
    | ((with_reducible refine gate_dst (N := 39) rfl ?_); refine Kd.R_lit (Kd.int .i64) _ 3 ?hg (N := 39) ?hd (xs := ([0, 100, 4096, 65472, r] : List Int)) (inner := [.int .i64 0, .int .i64 100, .int .i64 4096, .int .i64 65472, .int .i64 r]) (ok := fun _ => True) (okp := fun _ => True) ?hr ?hp (fun _ hk => hk) trivial (Below.refl _ _) (Nat.le_refl _) (by simp) ?_; (case hd => rfl); (case hg => rfl); (case hr => first | (go_simp; done) | (go_simp; rfl)); (case hp => exact (Reps.one (show Kd.M (Kd.int .i64) _ _ _ (0) [.int .i64 (0)] from rfl) (Reps.one (show Kd.M (Kd.int .i64) _ _ _ (100) [.int .i64 (100)] from rfl) (Reps.one (show Kd.M (Kd.int .i64) _ _ _ (4096) [.int .i64 (4096)] from rfl) (Reps.one (show Kd.M (Kd.int .i64) _ _ _ (65472) [.int .i64 (65472)] from rfl) (Reps.one (show Kd.M (Kd.int .i64) _ _ _ (r) [.int .i64 (r)] from rfl) (Reps.none _ _))))))); intro v8 w8 ho hb hg_ hnew_; clear hg_ hnew_; have n0_ := Pk.lit2 (w0 := w0) (g := g) (gp := gp) (gr := gr) (rows := rows) (bs := bs) hb ho (by simp); have n1_ := n0_ (by repeat (first | (with_reducible exact HD.out) | (with_reducible apply Pk.drewN) | (with_reducible apply Pk.drew) | (with_reducible apply Pk.put0) | (with_reducible apply Pk.put1) | (with_reducible apply Pk.put2) | (with_reducible apply Pk.put3) | (with_reducible apply Pk.put4) | (with_reducible apply Pk.put5) | (with_reducible apply Pk.put6) | (with_reducible apply Pk.nil) | (with_reducible exact PkV.put _ HV.out))); clear n0_ ho hb; obtain ⟨hd, hT⟩ := n1_; have HT := Aside0.mk hT; clear hT; clear HD; clear hz0 hz1 hz2 hz3 hz4 hz5 hz6 hz7 hf0 hf1 hf2 hf3 hf4 hf5 hf6 hf7; have HD := Aside0.mk hd; clear hd; obtain ⟨a0, a1, a2, a3, a4, a5, a6, A_, n_, c_, ⟨hz0, hz1, hz2, hz3, hz4, hz5, hz6, hz7⟩, hf0, hf1, hf2, hf3, hf4, hf5, hf6, hf7⟩ := HD.out.cells)
    | ((with_reducible refine gate_dst (N := 72) rfl ?_); refine Kd.R_lit (Kd.int .i64) _ 3 ?hg (N := 72) ?hd (xs := ([0, 0, 0, 1, 2] : List Int)) (inner := [.int .i64 0, .int .i64 0, .int .i64 0, .int .i64 1, .int .i64 2]) (ok := fun _ => True) (okp := fun _ => True) ?hr ?hp (fun _ hk => hk) trivial (Below.refl _ _) (Nat.le_refl _) (by simp) ?_; (case hd => rfl); (case hg => rfl); (case hr => first | (go_simp; done) | (go_simp; rfl)); (case hp => exact (Reps.one (show Kd.M (Kd.int .i64) _ _ _ (0) [.int .i64 (0)] from rfl) (Reps.one (show Kd.M (Kd.int .i64) _ _ _ (0) [.int .i64 (0)] from rfl) (Reps.one (show Kd.M (Kd.int .i64) _ _ _ (0) [.int .i64 (0)] from rfl) (Reps.one (show Kd.M (Kd.int .i64) _ _ _ (1) [.int .i64 (1)] from rfl) (Reps.one (show Kd.M (Kd.int .i64) _ _ _ (2) [.int .i64 (2)] from rfl) (Reps.none _ _))))))); intro v8 w8 ho hb hg_ hnew_; clear hg_ hnew_; have n0_ := Pk.lit2 (w0 := w0) (g := g) (gp := gp) (gr := gr) (rows := rows) (bs := bs) hb ho (by simp); have n1_ := n0_ (by repeat (first | (with_reducible exact HD.out) | (with_reducible apply Pk.drewN) | (with_reducible apply Pk.drew) | (with_reducible apply Pk.put0) | (with_reducible apply Pk.put1) | (with_reducible apply Pk.put2) | (with_reducible apply Pk.put3) | (with_reducible apply Pk.put4) | (with_reducible apply Pk.put5) | (with_reducible apply Pk.put6) | (with_reducible apply Pk.nil) | (with_reducible exact PkV.put _ HV.out))); clear n0_ ho hb; obtain ⟨hd, hT⟩ := n1_; have HT := Aside0.mk hT; clear hT; clear HD; clear hz0 hz1 hz2 hz3 hz4 hz5 hz6 hz7 hf0 hf1 hf2 hf3 hf4 hf5 hf6 hf7; have HD := Aside0.mk hd; clear hd; obtain ⟨a0, a1, a2, a3, a4, a5, a6, A_, n_, c_, ⟨hz0, hz1, hz2, hz3, hz4, hz5, hz6, hz7⟩, hf0, hf1, hf2, hf3, hf4, hf5, hf6, hf7⟩ := HD.out.cells)
    | ((with_reducible refine gate_dst (N := 76) rfl ?_); refine Kd.R_lit (Kd.int .i64) _ 3 ?hg (N := 76) ?hd (xs := ([8, 0, 20, 64] : List Int)) (inner := [.int .i64 8, .int .i64 0, .int .i64 20, .int .i64 64]) (ok := fun _ => True) (okp := fun _ => True) ?hr ?hp (fun _ hk => hk) trivial (Below.refl _ _) (Nat.le_refl _) (by simp) ?_; (case hd => rfl); (case hg => rfl); (case hr => first | (go_simp; done) | (go_simp; rfl)); (case hp => exact (Reps.one (show Kd.M (Kd.int .i64) _ _ _ (8) [.int .i64 (8)] from rfl) (Reps.one (show Kd.M (Kd.int .i64) _ _ _ (0) [.int .i64 (0)] from rfl) (Reps.one (show Kd.M (Kd.int .i64) _ _ _ (20) [.int .i64 (20)] from rfl) (Reps.one (show Kd.M (Kd.int .i64) _ _ _ (64) [.int .i64 (64)] from rfl) (Reps.none _ _)))))); intro v8 w8 ho hb hg_ hnew_; clear hg_ hnew_; have n0_ := Pk.lit2 (w0 := w0) (g := g) (gp := gp) (gr := gr) (rows := rows) (bs := bs) hb ho (by simp); have n1_ := n0_ (by repeat (first | (with_reducible exact HD.out) | (with_reducible apply Pk.drewN) | (with_reducible apply Pk.drew) | (with_reducible apply Pk.put0) | (with_reducible apply Pk.put1) | (with_reducible apply Pk.put2) | (with_reducible apply Pk.put3) | (with_reducible apply Pk.put4) | (with_reducible apply Pk.put5) | (with_reducible apply Pk.put6) | (with_reducible apply Pk.nil) | (with_reducible exact PkV.put _ HV.out))); clear n0_ ho hb; obtain ⟨hd, hT⟩ := n1_; have HT := Aside0.mk hT; clear hT; clear HD; clear hz0 hz1 hz2 hz3 hz4 hz5 hz6 hz7 hf0 hf1 hf2 hf3 hf4 hf5 hf6 hf7; have HD := Aside0.mk hd; clear hd; obtain ⟨a0, a1, a2, a3, a4, a5, a6, A_, n_, c_, ⟨hz0, hz1, hz2, hz3, hz4, hz5, hz6, hz7⟩, hf0, hf1, hf2, hf3, hf4, hf5, hf6, hf7⟩ := HD.out.cells)
    | ((with_reducible refine gate_dst (N := 90) rfl ?_); refine wp_any (fun W1 => Pk w0 W1 g gp gr rows bs) ?s1 ?_; (case s1 => exact (by repeat (first | (with_reducible exact HD.out) | (with_reducible apply Pk.drewN) | (with_reducible apply Pk.drew) | (with_reducible apply Pk.put0) | (with_reducible apply Pk.put1) | (with_reducible apply Pk.put2) | (with_reducible apply Pk.put3) | (with_reducible apply Pk.put4) | (with_reducible apply Pk.put5) | (with_reducible apply Pk.put6) | (with_reducible apply Pk.nil) | (with_reducible exact PkV.put _ HV.out)))); intro w9 hp; obtain ⟨b0, b1, b2, b3, b4, b5, b6, A, c, l, ok, hl, hd⟩ := hp; clear HD; clear hz0 hz1 hz2 hz3 hz4 hz5 hz6 hz7 hf0 hf1 hf2 hf3 hf4 hf5 hf6 hf7; have HE := Aside0.mk hd; have HL := Aside0.mk hl; have hb := hd.blk (i := 0) rfl; have hb2 := hd.blk (i := 1) rfl; clear hd hl; have hz0 := (blk_cell hb 0).trans rfl; have hz1 := (blk_cell hb 1).trans rfl; have hz2 := (blk_cell hb 2).trans rfl; have hz3 := (blk_cell hb 3).trans rfl; have hz4 := (blk_cell hb 4).trans rfl; have hz5 := (blk_cell hb 5).trans rfl; have hz6 := (blk_cell hb 6).trans rfl; have hz7 := (blk_cell hb 7).trans rfl; have hy0 := (blk_cell hb2 0).trans rfl; have hx0 := blk_frozen hb2 0; have hy1 := (blk_cell hb2 1).trans rfl; have hx1 := blk_frozen hb2 1; have hy2 := (blk_cell hb2 2).trans rfl; have hx2 := blk_frozen hb2 2; have hy3 := (blk_cell hb2 3).trans rfl; have hx3 := blk_frozen hb2 3; have hy4 := (blk_cell hb2 4).trans rfl; have hx4 := blk_frozen hb2 4; have hy5 := (blk_cell hb2 5).trans rfl; have hx5 := blk_frozen hb2 5; have hy6 := (blk_cell hb2 6).trans rfl; have hx6 := blk_frozen hb2 6; have hy7 := (blk_cell hb2 7).trans rfl; have hx7 := blk_frozen hb2 7; clear hb hb2))
  all_goals first
    | (
      have hf := (Dr.put (bs := ⟨gp, #[.int .i64 b0, .int .i64 b1, .int .i64 b2, .int .i64 b3, .int .i64 b4, .int .i64 b5, .int .i64 b6, .slice A l.length c], 26⟩ :: ⟨gr, #[.int .i64 b0, .int .i64 b1, .int .i64 b2, .int .i64 b3, .int .i64 b4, .int .i64 b5, .int .i64 b6, .slice none 0 0], 26⟩ :: bs) (Dr.put (bs := ⟨gp, #[.int .i64 b0, .int .i64 b1, .int .i64 b2, .int .i64 b3, .int .i64 b4, .int .i64 b5, .int .i64 b6, .slice A l.length c], 26⟩ :: ⟨gr, #[.int .i64 b0, .int .i64 b1, .int .i64 b2, .int .i64 b3, .int .i64 b4, .int .i64 b5, .int .i64 0, .slice none 0 0], 26⟩ :: bs) (Dr.put (bs := ⟨gp, #[.int .i64 b0, .int .i64 b1, .int .i64 b2, .int .i64 b3, .int .i64 b4, .int .i64 b5, .int .i64 b6, .slice A l.length c], 26⟩ :: ⟨gr, #[.int .i64 b0, .int .i64 b1, .int .i64 b2, .int .i64 b3, .int .i64 b4, .int .i64 0, .int .i64 0, .slice none 0 0], 26⟩ :: bs) (Dr.put (bs := ⟨gp, #[.int .i64 b0, .int .i64 b1, .int .i64 b2, .int .i64 b3, .int .i64 b4, .int .i64 b5, .int .i64 b6, .slice A l.length c], 26⟩ :: ⟨gr, #[.int .i64 b0, .int .i64 b1, .int .i64 b2, .int .i64 b3, .int .i64 0, .int .i64 0, .int .i64 0, .slice none 0 0], 26⟩ :: bs) (Dr.put (bs := ⟨gp, #[.int .i64 b0, .int .i64 b1, .int .i64 b2, .int .i64 b3, .int .i64 b4, .int .i64 b5, .int .i64 b6, .slice A l.length c], 26⟩ :: ⟨gr, #[.int .i64 b0, .int .i64 b1, .int .i64 b2, .int .i64 0, .int .i64 0, .int .i64 0, .int .i64 0, .slice none 0 0], 26⟩ :: bs) (Dr.put (bs := ⟨gp, #[.int .i64 b0, .int .i64 b1, .int .i64 b2, .int .i64 b3, .int .i64 b4, .int .i64 b5, .int .i64 b6, .slice A l.length c], 26⟩ :: ⟨gr, #[.int .i64 b0, .int .i64 b1, .int .i64 0, .int .i64 0, .int .i64 0, .int .i64 0, .int .i64 0, .slice none 0 0], 26⟩ :: bs) (Dr.put (bs := ⟨gp, #[.int .i64 b0, .int .i64 b1, .int .i64 b2, .int .i64 b3, .int .i64 b4, .int .i64 b5, .int .i64 b6, .slice A l.length c], 26⟩ :: ⟨gr, #[.int .i64 b0, .int .i64 0, .int .i64 0, .int .i64 0, .int .i64 0, .int .i64 0, .int .i64 0, .slice none 0 0], 26⟩ :: bs) (Dr.put (bs := ⟨gp, #[.int .i64 b0, .int .i64 b1, .int .i64 b2, .int .i64 b3, .int .i64 b4, .int .i64 b5, .int .i64 b6, .slice A l.length c], 26⟩ :: ⟨gr, #[.int .i64 0, .int .i64 0, .int .i64 0, .int .i64 0, .int .i64 0, .int .i64 0, .int .i64 0, .slice none 0 0], 26⟩ :: bs) HE.out 1 rfl 0 (.int .i64 b0) rfl rfl) 1 rfl 1 (.int .i64 b1) rfl rfl) 1 rfl 2 (.int .i64 b2) rfl rfl) 1 rfl 3 (.int .i64 b3) rfl rfl) 1 rfl 4 (.int .i64 b4) rfl rfl) 1 rfl 5 (.int .i64 b5) rfl rfl) 1 rfl 6 (.int .i64 b6) rfl rfl) 1 rfl 7 (.slice A l.length c) rfl rfl)
      refine bodyPost_ret (results_cell_row rfl _ _ gr 26 #[.int .i64 b0, .int .i64 b1, .int .i64 b2, .int .i64 b3, .int .i64 b4, .int .i64 b5, .int .i64 b6, .slice A l.length c] (0, 0) _ rfl (by exact hf.blk (i := 1) rfl) Try.underlying26 rfl (by kernel_rfl)) rfl ?_
      first | exact ⟨b0, b1, b2, b3, b4, b5, b6, A, c, l, ok, rfl, HL.out, hf.dropbox.dropbox⟩ | exact ⟨b0, b1, b2, b3, b4, b5, b6, A, c, l, rfl, HL.out, ok, hf.dropbox.dropbox⟩)
    | skip
  refine cw_any (fun W1 => Pk w0 W1 g gp gr rows bs) ?s1 ?_
  (case s1 => exact (by repeat (first | (with_reducible exact HD.out) | (with_reducible apply Pk.drewN) | (with_reducible apply Pk.drew) | (with_reducible apply Pk.put0) | (with_reducible apply Pk.put1) | (with_reducible apply Pk.put2) | (with_reducible apply Pk.put3) | (with_reducible apply Pk.put4) | (with_reducible apply Pk.put5) | (with_reducible apply Pk.put6) | (with_reducible apply Pk.nil) | (with_reducible exact PkV.put _ HV.out))))
  intro w9 hp
  obtain ⟨a0, a1, a2, a3, a4, a5, a6, A, c, l, ok, hl, hd⟩ := hp
  clear HD
  clear hz0 hz1 hz2 hz3 hz4 hz5 hz6 hz7 hf0 hf1 hf2 hf3 hf4 hf5 hf6 hf7
  have HE := Aside0.mk (hd.drew)
  clear hd hl
  refine start_ (n := 9) (S := fun w' => w'.cell? ⟨gp, 4, none⟩ = some (.int .i64 a4)) (ds := [8]) #[false, false, false, false, false, false, false, false, false] (by kernel_rfl) rfl rfl ((blk_cell (HE.out.blk (i := 0) rfl) 4).trans rfl) (fun hHeld => ?_); refine with_tabW spec_l04Packet.tab25 spec_l04Packet.bits25 (fun HT_ HW_ => ?_)
  generalize w9.drew = w_d at HE hHeld ⊢
  refine pure_ (i := 0) (N := some 82) (v := ?_) (a' := ?_) #[true, false, false, false, false, false, false, false, false] rfl rfl (any_of HT_.out (by kernel_rfl)) (fun _ _ _ h => h) (Or.inl ⟨by rfl, ?_⟩) ?_ ?_
  rotate_left
  · intro w'
    go_simp
    with_reducible rfl
  rotate_left
  · simp only [Act.put, List.setIfInBounds_toArray, List.set_cons_zero, List.set_cons_succ, i64_w, i32_w]
    rfl
  refine pure_ (i := 1) (N := some 83) (v := ?_) (a' := ?_) #[true, true, false, false, false, false, false, false, false] rfl rfl (any_of HT_.out (by kernel_rfl)) (fun _ _ _ h => h) (Or.inl ⟨by rfl, ?_⟩) ?_ ?_
  rotate_left
  · intro w'
    go_simp
    with_reducible rfl
  rotate_left
  · simp only [Act.put, List.setIfInBounds_toArray, List.set_cons_zero, List.set_cons_succ, i64_w, i32_w]
    rfl
  refine pure_ (i := 3) (N := some 85) (v := ?_) (a' := ?_) #[true, true, false, true, false, false, false, false, false] rfl rfl (any_of HT_.out (by kernel_rfl)) (fun _ _ _ h => h) (Or.inl ⟨by rfl, ?_⟩) ?_ ?_
  rotate_left
  · intro w'
    go_simp
    with_reducible rfl
  rotate_left
  · simp only [Act.put, List.setIfInBounds_toArray, List.set_cons_zero, List.set_cons_succ, i64_w, i32_w]
    rfl
  refine take_ (i := 2) (N := some 84) (v := ?_) (a' := ?_) #[true, true, true, true, false, false, false, false, false] rfl rfl (take_ofW HT_.out HW_.out (by kernel_rfl)) (fun _ _ _ h => h) (Or.inl ⟨by rfl, ?_⟩) hHeld ?_ ?_
  rotate_left
  · rintro w' s0
    go_simp
    with_reducible rfl
  rotate_left
  · simp only [Act.put, List.setIfInBounds_toArray, List.set_cons_zero, List.set_cons_succ, i64_w, i32_w]
    rfl
  refine one_ (i := 4) (N := some 86) #[true, true, true, true, true, false, false, false, false] rfl rfl (one_of HT_.out (by kernel_rfl)) (by decide) (fun K hK => ?_)
  refine goes_ Try.func70 (by kernel_rfl) rfl #[.pointer (some ⟨g, 0, none⟩), .int .i64 9] (by rfl) rfl rfl (by (try simp only [List.map_toArray, List.map_cons, List.map_nil]); first | done | rfl | (simp only [List.length_drop, List.length_take]; rfl)) ?_
  refine (below_dr HE.out 9).mono ?_
  rintro e w10 ⟨r9, rfl, hr9, hd⟩
  refine ⟨_, rfl, ?_⟩
  clear HE
  have HE := Aside0.mk hd
  have HR9 := Aside0.mk hr9
  clear hd hr9
  refine hK.out _ _ ((blk_cell (HE.out.blk (i := 0) rfl) 4).trans rfl) (fun hHeld => ?_)
  clear hK K
  refine norm_ (a' := ?_) ?_ ?_
  rotate_left
  · show Act.put _ (some 86) _ = _
    simp only [Act.put, List.setIfInBounds_toArray, List.set_cons_zero, List.set_cons_succ, i64_w, i32_w]
    rfl
  refine pure_ (i := 5) (N := some 87) (v := ?_) (a' := ?_) #[true, true, true, true, true, true, false, false, false] rfl rfl (any_of HT_.out (by kernel_rfl)) (fun _ _ _ h => h) (Or.inl ⟨by rfl, ?_⟩) ?_ ?_
  rotate_left
  · intro w'
    go_simp
    with_reducible rfl
  rotate_left
  · simp only [Act.put, List.setIfInBounds_toArray, List.set_cons_zero, List.set_cons_succ, i64_w, i32_w]
    rfl
  refine one_ (i := 6) (N := some 88) #[true, true, true, true, true, true, true, false, false] rfl rfl (one_of HT_.out (by kernel_rfl)) (by decide) (fun K hK => ?_)
  refine goes_ Try.func99 (by kernel_rfl) rfl #[.pointer (some ⟨g, 0, none⟩), .int .i64 (mn a4 r9)] (by rfl) rfl rfl (by (try simp only [List.map_toArray, List.map_cons, List.map_nil]); first | done | rfl | (simp only [List.length_drop, List.length_take]; rfl)) ?_
  refine (data_dr HE.out (mn a4 r9) (by have := HR9.out; unfold mn; split <;> omega)).mono ?_
  rintro e w11 ⟨v, l1, ok1, rfl, hl1, hd⟩
  obtain ⟨A1, c1, rfl⟩ := Kd.R_slice (hd.has (i := 0) rfl)
  refine ⟨_, rfl, ?_⟩
  clear HE
  have HE := Aside0.mk hd
  have HL1 := Aside0.mk hl1
  clear hd hl1
  refine hK.out _ _ ((blk_cell (HE.out.blk (i := 0) rfl) 4).trans rfl) (fun hHeld => ?_)
  clear hK K
  refine norm_ (a' := ?_) ?_ ?_
  rotate_left
  · show Act.put _ (some 88) _ = _
    simp only [Act.put, List.setIfInBounds_toArray, List.set_cons_zero, List.set_cons_succ, i64_w, i32_w]
    rfl
  refine pure_ (i := 7) (N := some 89) (v := ?_) (a' := ?_) #[true, true, true, true, true, true, true, true, false] rfl rfl (any_of HT_.out (by kernel_rfl)) (fun _ _ _ h => h) (Or.inl ⟨by rfl, ?_⟩) ?_ ?_
  rotate_left
  · intro w'
    go_simp
    with_reducible rfl
  rotate_left
  · simp only [Act.put, List.setIfInBounds_toArray, List.set_cons_zero, List.set_cons_succ, i64_w, i32_w]
    rfl
  refine last_ (i := 8) (N := none) #[true, true, true, true, true, true, true, true, true] rfl rfl (one_of HT_.out (by kernel_rfl)) (by decide) (fun K hK => ?_)
  have hs1 : w11.cell? ⟨gp, 7, none⟩ = some (.slice A l.length c) := (blk_cell (HE.out.blk (i := 0) rfl) 7).trans rfl
  have hs2 := blk_frozen (HE.out.blk (i := 0) rfl) 7
  refine skip_ (w1 := ?_) (by rfl) rfl ?_ ?_
  rotate_left
  · go_simp
    rfl
  refine hK.out _ _ ?_
  clear hK K
  refine done_ (done_of HT_.out (by kernel_rfl)) ?_
  have hd : Pk w0 (w11.setCell ⟨gp, 7, none⟩ (.slice A1 l1.length c1)) g gp gr rows bs := ⟨a0, a1, a2, a3, a4, a5, a6, A1, c1, l1, ok1, HL1.out, HE.out.drop2.put 0 rfl 7 _ rfl rfl⟩
  generalize w11.setCell ⟨gp, 7, none⟩ (.slice A1 l1.length c1) = w12 at hd ⊢
  clear hs1 hs2 hHeld HE
  have HD := Aside0.mk hd
  clear hd
  obtain ⟨a0, a1, a2, a3, a4, a5, a6, A_, n_, c_, ⟨hz0, hz1, hz2, hz3, hz4, hz5, hz6, hz7⟩, hf0, hf1, hf2, hf3, hf4, hf5, hf6, hf7⟩ := HD.out.cells
  go_wp2_with (first
    | ((with_reducible refine gate_dst (N := 90) rfl ?_); refine wp_any (fun W1 => Pk w0 W1 g gp gr rows bs) ?s1 ?_; (case s1 => exact (by repeat (first | (with_reducible exact HD.out) | (with_reducible apply Pk.drewN) | (with_reducible apply Pk.drew) | (with_reducible apply Pk.put0) | (with_reducible apply Pk.put1) | (with_reducible apply Pk.put2) | (with_reducible apply Pk.put3) | (with_reducible apply Pk.put4) | (with_reducible apply Pk.put5) | (with_reducible apply Pk.put6) | (with_reducible apply Pk.nil) | (with_reducible exact PkV.put _ HV.out)))); intro w9 hp; obtain ⟨b0, b1, b2, b3, b4, b5, b6, A, c, l, ok, hl, hd⟩ := hp; clear HD; clear hz0 hz1 hz2 hz3 hz4 hz5 hz6 hz7 hf0 hf1 hf2 hf3 hf4 hf5 hf6 hf7; have HE := Aside0.mk hd; have HL := Aside0.mk hl; have hb := hd.blk (i := 0) rfl; have hb2 := hd.blk (i := 1) rfl; clear hd hl; have hz0 := (blk_cell hb 0).trans rfl; have hz1 := (blk_cell hb 1).trans rfl; have hz2 := (blk_cell hb 2).trans rfl; have hz3 := (blk_cell hb 3).trans rfl; have hz4 := (blk_cell hb 4).trans rfl; have hz5 := (blk_cell hb 5).trans rfl; have hz6 := (blk_cell hb 6).trans rfl; have hz7 := (blk_cell hb 7).trans rfl; have hy0 := (blk_cell hb2 0).trans rfl; have hx0 := blk_frozen hb2 0; have hy1 := (blk_cell hb2 1).trans rfl; have hx1 := blk_frozen hb2 1; have hy2 := (blk_cell hb2 2).trans rfl; have hx2 := blk_frozen hb2 2; have hy3 := (blk_cell hb2 3).trans rfl; have hx3 := blk_frozen hb2 3; have hy4 := (blk_cell hb2 4).trans rfl; have hx4 := blk_frozen hb2 4; have hy5 := (blk_cell hb2 5).trans rfl; have hx5 := blk_frozen hb2 5; have hy6 := (blk_cell hb2 6).trans rfl; have hx6 := blk_frozen hb2 6; have hy7 := (blk_cell hb2 7).trans rfl; have hx7 := blk_frozen hb2 7; clear hb hb2))
  all_goals
    have hf := (Dr.put (bs := ⟨gp, #[.int .i64 b0, .int .i64 b1, .int .i64 b2, .int .i64 b3, .int .i64 b4, .int .i64 b5, .int .i64 b6, .slice A l.length c], 26⟩ :: ⟨gr, #[.int .i64 b0, .int .i64 b1, .int .i64 b2, .int .i64 b3, .int .i64 b4, .int .i64 b5, .int .i64 b6, .slice none 0 0], 26⟩ :: bs) (Dr.put (bs := ⟨gp, #[.int .i64 b0, .int .i64 b1, .int .i64 b2, .int .i64 b3, .int .i64 b4, .int .i64 b5, .int .i64 b6, .slice A l.length c], 26⟩ :: ⟨gr, #[.int .i64 b0, .int .i64 b1, .int .i64 b2, .int .i64 b3, .int .i64 b4, .int .i64 b5, .int .i64 0, .slice none 0 0], 26⟩ :: bs) (Dr.put (bs := ⟨gp, #[.int .i64 b0, .int .i64 b1, .int .i64 b2, .int .i64 b3, .int .i64 b4, .int .i64 b5, .int .i64 b6, .slice A l.length c], 26⟩ :: ⟨gr, #[.int .i64 b0, .int .i64 b1, .int .i64 b2, .int .i64 b3, .int .i64 b4, .int .i64 0, .int .i64 0, .slice none 0 0], 26⟩ :: bs) (Dr.put (bs := ⟨gp, #[.int .i64 b0, .int .i64 b1, .int .i64 b2, .int .i64 b3, .int .i64 b4, .int .i64 b5, .int .i64 b6, .slice A l.length c], 26⟩ :: ⟨gr, #[.int .i64 b0, .int .i64 b1, .int .i64 b2, .int .i64 b3, .int .i64 0, .int .i64 0, .int .i64 0, .slice none 0 0], 26⟩ :: bs) (Dr.put (bs := ⟨gp, #[.int .i64 b0, .int .i64 b1, .int .i64 b2, .int .i64 b3, .int .i64 b4, .int .i64 b5, .int .i64 b6, .slice A l.length c], 26⟩ :: ⟨gr, #[.int .i64 b0, .int .i64 b1, .int .i64 b2, .int .i64 0, .int .i64 0, .int .i64 0, .int .i64 0, .slice none 0 0], 26⟩ :: bs) (Dr.put (bs := ⟨gp, #[.int .i64 b0, .int .i64 b1, .int .i64 b2, .int .i64 b3, .int .i64 b4, .int .i64 b5, .int .i64 b6, .slice A l.length c], 26⟩ :: ⟨gr, #[.int .i64 b0, .int .i64 b1, .int .i64 0, .int .i64 0, .int .i64 0, .int .i64 0, .int .i64 0, .slice none 0 0], 26⟩ :: bs) (Dr.put (bs := ⟨gp, #[.int .i64 b0, .int .i64 b1, .int .i64 b2, .int .i64 b3, .int .i64 b4, .int .i64 b5, .int .i64 b6, .slice A l.length c], 26⟩ :: ⟨gr, #[.int .i64 b0, .int .i64 0, .int .i64 0, .int .i64 0, .int .i64 0, .int .i64 0, .int .i64 0, .slice none 0 0], 26⟩ :: bs) (Dr.put (bs := ⟨gp, #[.int .i64 b0, .int .i64 b1, .int .i64 b2, .int .i64 b3, .int .i64 b4, .int .i64 b5, .int .i64 b6, .slice A l.length c], 26⟩ :: ⟨gr, #[.int .i64 0, .int .i64 0, .int .i64 0, .int .i64 0, .int .i64 0, .int .i64 0, .int .i64 0, .slice none 0 0], 26⟩ :: bs) HE.out 1 rfl 0 (.int .i64 b0) rfl rfl) 1 rfl 1 (.int .i64 b1) rfl rfl) 1 rfl 2 (.int .i64 b2) rfl rfl) 1 rfl 3 (.int .i64 b3) rfl rfl) 1 rfl 4 (.int .i64 b4) rfl rfl) 1 rfl 5 (.int .i64 b5) rfl rfl) 1 rfl 6 (.int .i64 b6) rfl rfl) 1 rfl 7 (.slice A l.length c) rfl rfl)
    refine bodyPost_ret (results_cell_row rfl _ _ gr 26 #[.int .i64 b0, .int .i64 b1, .int .i64 b2, .int .i64 b3, .int .i64 b4, .int .i64 b5, .int .i64 b6, .slice A l.length c] (0, 0) _ rfl (by exact hf.blk (i := 1) rfl) Try.underlying26 rfl (by kernel_rfl)) rfl ?_
    first | exact ⟨b0, b1, b2, b3, b4, b5, b6, A, c, l, ok, rfl, HL.out, hf.dropbox.dropbox⟩ | exact ⟨b0, b1, b2, b3, b4, b5, b6, A, c, l, rfl, HL.out, ok, hf.dropbox.dropbox⟩
/-- The bytes of a drawn packet. -/
theorem bytes_dr (w0 W : World) (g : Nat) (rows : List MRow) (bs : List MBox) (h : Dr w0 W g rows bs) :
    Calls Try.prog 110 #[.pointer (some ⟨g, 0, none⟩)] W fun e W' => ∃ (A : Option Addr) (c : Nat) (l : List Int) (ok : Nat → Prop), e = .returned (.slice A l.length c) ∧ l.length ≤ 1000 ∧ Dr w0 W' g (RRow (Kd.int .i64) 3 w0 ok (.slice A l.length c) l :: rows) bs := by
  have HD := Aside0.mk h
  clear h
  go_enter Try.func110, Try.ntmps110
  go_wp2_with (first
    | (go_at_call 56; refine (packet_dr w0 _ g rows bs ?s1).mono ?_; (case s1 => exact (by repeat (first | (with_reducible exact HD.out) | (with_reducible apply Dr.drewN) | (with_reducible apply Dr.drew)))); rintro e w1 ⟨a0, a1, a2, a3, a4, a5, a6, A, c, l, ok, rfl, hl, hd⟩; clear HD; have HD := Aside0.mk hd; have HL := Aside0.mk hl; clear hd hl)
    | (go_at_call 102; refine (spec_EncodePacket.weak a0 a1 a2 a3 a4 a5 a6 A c l _ ?s1 ?s2 HL.out).mono ?_; (case s1 => exact (by repeat (first | exact (Kd.R_reads' (HD.out.has (i := 0) rfl)).2.2 | (with_reducible refine Kd.C_drewN ?_ _) | (with_reducible refine Kd.C_drew ?_)))); (case s2 => exact (Kd.R_reads' (HD.out.has (i := 0) rfl)).2.1); rintro e w2 ⟨v, xs, rfl, ho, hx, hb⟩; obtain ⟨ok2, hd⟩ := Dr.newR HD.out hb ho; obtain ⟨A1, c1, rfl⟩ := Kd.R_slice ho; clear HD hb ho; have HD := Aside0.mk hd.drop2; have HX := Aside0.mk hx; clear hd hx))
  go_ret
  exact ⟨A1, c1, xs, ok2, rfl, HX.out, by repeat (first | (with_reducible exact HD.out) | (with_reducible apply Dr.drewN) | (with_reducible apply Dr.drew))⟩

end Go.Proofs.Ytdnekkbchlibhaa.PFnSenders
