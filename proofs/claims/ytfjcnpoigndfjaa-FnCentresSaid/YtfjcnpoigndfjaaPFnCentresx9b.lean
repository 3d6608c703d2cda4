-- Made by wip/pr.py of this repo over the kit's print (some contracts by hand).
import Derived.Test.YtfjcnpoigndfjaaSq
import Derived.Test.YtfjcnpoigndfjaaPFnCentresx0
import Derived.Test.YtfjcnpoigndfjaaPFnCentresx2
import Derived.Test.YtfjcnpoigndfjaaPFnCentresx3
import Derived.Test.YtfjcnpoigndfjaaPFnCentresx4
import Derived.Test.YtfjcnpoigndfjaaPFnCentresx5
import Derived.Test.YtfjcnpoigndfjaaPFnCentresx6
import Derived.Test.YtfjcnpoigndfjaaPFnCentresx7
import Derived.Test.YtfjcnpoigndfjaaPFnCentresx8
import Derived.Test.YtfjcnpoigndfjaaPFnCentresx9
namespace Go.Proofs.Ytfjcnpoigndfjaa.PFnCentres
open Go.RowKit Go.Proofs.YtfjcnpoigndfjaaW.PrintWords Go.Proofs.YtfjcnpoigndfjaaW.PrintLast Go.Proofs.YtfjcnpoigndfjaaW.PrintMore
attribute [local go_sem] max2_int min2_int max_two min_two max_three min_three max_four min_four   -- for this text's walks alone
set_option linter.unusedVariables false
set_option linter.unusedSimpArgs false
set_option maxHeartbeats 8000000 in
set_option maxRecDepth 100000 in
theorem laws_FnCentres.calls (k : Nat) (A0 : Option Addr) (c0 : Nat) (l0 : List Int) (r : Bool) (w : World) (hr0 : Kd.C (Kd.int .u8) w A0 l0.length l0) (hc0 : l0.length ≤ c0) (h : laws_FnCentres.f k l0 = some r) (hr : r = true) :
  Calls Try.prog 4 #[.slice A0 l0.length c0] w fun e w' => e = .returned (.bool r) ∧ Below w.heap.size w w' := by
 have hqA := fun (W : World) (a b c d : Int) => laws_FnCentres.eqA W a b c d
 have hu36 := Try.underlying36
 have HR0 := Aside0.mk hr0
 have HC0 := Aside0.mk hc0
 clear hr0 hc0
 have HB := Aside0.mk (Below.refl w.heap.size w)
 have H : ((laws_rBig.f l0).bind fun t341 => (if t341 = true then (some true) else ((spec_DrawTipSide.f k l0).bind fun bt342 => ((impl_TipSide.f k bt342.1 bt342.2.1 bt342.2.2).bind fun bt347 => ((spec_TipSide.f k bt342.1 bt342.2.1 bt342.2.2).bind fun bt349 => (if bt347.1 = bt349.1 then (laws_FnCentres.j0 k l0 bt342.1 bt342.2.1 bt342.2.2 bt347.1 bt347.2 (bt347.2 != bt349.2)) else (laws_FnCentres.j0 k l0 bt342.1 bt342.2.1 bt342.2.2 bt347.1 bt347.2 true))))))) = some r := h
 clear h
 replace H := Option.bind_eq_some_iff.mp H
 obtain ⟨t341, A20, H⟩ := H
 try dsimp only at H
 have A2 := Aside0.mk A20
 clear A20
 by_cases c3 : t341 = true
 ·subst c3
  rw [if_pos rfl] at H
  as_aux_lemma =>
   obtain rfl := Option.some.inj H
   go_enter Try.func4, Try.ntmps4
   go_wp2_with (first | ((with_reducible refine gate_callee (f := 5) rfl ?_); refine goesL_ (some 47) rfl rfl Try.func5 (by kernel_rfl) rfl #[.slice A0 l0.length c0] rfl (by (try simp only [List.map_toArray, List.map_cons, List.map_nil]); first | done | rfl | (simp only [List.length_drop, List.length_take]; rfl)) ?_; (with_reducible refine (laws_rBig.calls _ _ l0 true _ (Sq.C (HR0.out)) HC0.out A2.out).mono ?_); rintro e w' ⟨rfl, ⟨nd, rfl⟩⟩; refine ⟨_, rfl, ?_⟩))
   go_ret
   exact ⟨by first | rfl | (simp [errW_none, errW_some] <;> rfl) | (simp [*, errW_none, errW_some] <;> rfl), Sq.B HB⟩
 replace c3 := Bool.eq_false_iff.mpr c3
 subst c3
 rw [if_neg (show ¬ (false = true) by decide)] at H
 replace H := Option.bind_eq_some_iff.mp H
 obtain ⟨⟨t342, t343, t344⟩, A40, H⟩ := H
 try dsimp only at H
 have A4 := Aside0.mk A40
 clear A40
 replace H := Option.bind_eq_some_iff.mp H
 obtain ⟨⟨t347, t348⟩, A50, H⟩ := H
 try dsimp only at H
 have A5 := Aside0.mk A50
 clear A50
 replace H := Option.bind_eq_some_iff.mp H
 obtain ⟨⟨t349, t350⟩, A60, H⟩ := H
 try dsimp only at H
 have A6 := Aside0.mk A60
 clear A60
 have HC7 := Aside0.mk H
 clear H
 go_enter Try.func4, Try.ntmps4
 as_aux_lemma =>
  go_upto_region 6 with (first | ((with_reducible refine gate_callee (f := 5) rfl ?_); refine goesL_ (some 47) rfl rfl Try.func5 (by kernel_rfl) rfl #[.slice A0 l0.length c0] rfl (by (try simp only [List.map_toArray, List.map_cons, List.map_nil]); first | done | rfl | (simp only [List.length_drop, List.length_take]; rfl)) ?_; (with_reducible refine (laws_rBig.calls _ _ l0 false _ (Sq.C (HR0.out)) HC0.out A2.out).mono ?_); rintro e w' ⟨rfl, ⟨nd, rfl⟩⟩; refine ⟨_, rfl, ?_⟩) | ((with_reducible refine gate_callee (f := 15) rfl ?_); refine goesL_ (some 50) rfl rfl Try.func15 (by kernel_rfl) rfl #[.slice A0 l0.length c0] rfl (by (try simp only [List.map_toArray, List.map_cons, List.map_nil]); first | done | rfl | (simp only [List.length_drop, List.length_take]; rfl)) ?_; (with_reducible refine (spec_DrawTipSide.calls k _ _ l0 t342 t343 t344 _ (Sq.C (HR0.out)) HC0.out A4.out).mono ?_); rintro e w8 ⟨v345, rfl, ho0, hb⟩; refine ⟨_, rfl, ?_⟩; have HO346 := Sq.L ho0 HB; replace HB := Sq.S HB hb; clear hb ho0; obtain ⟨Ao9, co9, rfl⟩ := Kd.R_slice HO346.out) | ((with_reducible refine gate_callee (f := 14) rfl ?_); refine goesL_ (some 58) rfl rfl Try.func14 (by kernel_rfl) rfl #[.slice Ao9 t342.length co9, .int .i64 t343, .int .i64 t344] rfl (by (try simp only [List.map_toArray, List.map_cons, List.map_nil]); first | done | rfl | (simp only [List.length_drop, List.length_take]; rfl)) ?_; (with_reducible refine (impl_TipSide.calls k _ _ t342 t343 t344 t347 t348 _ (Sq.r HO346) (Sq.n HO346) A5.out).mono ?_); rintro e w10 ⟨rfl, hb⟩; refine ⟨_, rfl, ?_⟩; replace HO346 := Sq.T HO346 hb; replace HB := Sq.S HB hb; clear hb) | ((with_reducible refine gate_callee (f := 16) rfl ?_); refine goesL_ (some 65) rfl rfl Try.func16 (by kernel_rfl) rfl #[.slice Ao9 t342.length co9, .int .i64 t343, .int .i64 t344] rfl (by (try simp only [List.map_toArray, List.map_cons, List.map_nil]); first | done | rfl | (simp only [List.length_drop, List.length_take]; rfl)) ?_; (with_reducible refine (spec_TipSide.calls k _ _ t342 t343 t344 t349 t350 _ (Sq.r HO346) (Sq.n HO346) A6.out).mono ?_); rintro e w' ⟨rfl, ⟨nd, rfl⟩⟩; refine ⟨_, rfl, ?_⟩))
  (try simp only [Act.put, List.setIfInBounds_toArray, List.set_cons_zero, List.set_cons_succ])
  go_cut [75] (fun v75 wc => ∃ (kq : Nat) (x75_6 : Bool), v75 = .bool x75_6 ∧ Aside0 (laws_FnCentres.j0 kq l0 t342 t343 t344 t347 t348 x75_6 = some r) ∧ Aside0 (kq ≤ k) ∧ Aside0 (Kd.R k33 33 wc w.heap.size (fun _ => True) (.slice Ao9 t342.length co9) t342) ∧ Aside0 (Below w.heap.size w wc))
  case first =>
   have H := HC7.out
   clear HC7
   by_cases c11 : t347 = t349
   rotate_left
   ·rw [if_neg c11] at H
    have c11b0 : (t347 == t349) = false := beq_eq_false_iff_ne.mpr c11
    have c11b1 : (t347 != t349) = true := bne_iff_ne.mpr c11
    (first | rw [c11b0] | (simp only [i64_w, i32_w]; rw [c11b0]) | skip)
    exact (laws_FnCentres.j0_bad _ H hr).elim
   rw [if_pos c11] at H
   have c11b0 : (t347 == t349) = true := beq_iff_eq.mpr c11
   have c11b1 : (t347 != t349) = false := bne_eq_false_iff_eq.mpr c11
   clear c11
   (first | rw [c11b0] | (simp only [i64_w, i32_w]; rw [c11b0]) | skip)
   as_aux_lemma =>
    have H' := Aside0.mk H
    clear H
    go_wp2
    go_meet
    case rel => exact ⟨_, ((t348 != t350)), (by first | rfl | (simp; done) | (simp [*]; done) | (simp [bne]; done)), H', ⟨by first | omega | exact Nat.le_refl _⟩, ⟨by (with_reducible repeat (first | apply Kd.R_alloc | apply Kd.R_drewN | apply Kd.R_drew)); exact HO346.out⟩, ⟨Sq.B HB⟩⟩
  case rest =>
   clear HC7
   obtain ⟨kq, x75_6, rfl, HA, HJ6, HO_3, HB⟩ := hcut
   cases kq with
   | zero => exact absurd HA.out (by simp [laws_FnCentres.j0])
   | succ kj6 =>
    have H := HA.out
    clear HA
    simp only [laws_FnCentres.j0] at H
    by_cases c12 : x75_6 = true
    ·subst c12
     rw [if_pos rfl] at H
     obtain rfl := Option.some.inj H
     cases hr
    replace c12 := Bool.eq_false_iff.mpr c12
    subst c12
    rw [if_neg (show ¬ (false = true) by decide)] at H
    replace H := Option.bind_eq_some_iff.mp H
    obtain ⟨⟨t351, t352, t353, t354, t355⟩, A130, H⟩ := H
    try dsimp only at H
    have A13 := Aside0.mk A130
    clear A130
    replace H := Option.bind_eq_some_iff.mp H
    obtain ⟨⟨t358, t359, t360, t361, t362⟩, A140, H⟩ := H
    try dsimp only at H
    have A14 := Aside0.mk A140
    clear A140
    have HC15 := Aside0.mk H
    clear H
    as_aux_lemma =>
     go_upto_region 10 with (first | ((with_reducible refine gate_callee (f := 17) rfl ?_); refine goesL_ (some 80) rfl rfl Try.func17 (by kernel_rfl) rfl #[.slice Ao9 t342.length co9, .int .i64 t343, .int .i64 t344] rfl (by (try simp only [List.map_toArray, List.map_cons, List.map_nil]); first | done | rfl | (simp only [List.length_drop, List.length_take]; rfl)) ?_; (with_reducible refine (impl_ReactionsOf.calls kj6 _ _ t342 t343 t344 t351 t352 t353 t354 t355 _ (Sq.r HO_3) (Sq.n HO_3) A13.out).mono ?_); rintro e w16 ⟨rfl, hb⟩; refine ⟨_, rfl, ?_⟩; replace HO_3 := Sq.T HO_3 hb; replace HB := Sq.S HB hb; clear hb) | ((with_reducible refine gate_dst (N := 10) rfl ?_); (try (refine gate_guard (by rfl) ?_; dsimp only)); refine box_event ?hg (N := 10) ?hd (cs := #[.int .i64 0, .int .i64 0]) (t := 36) ?hr ?_; (case hd => rfl); (case hg => rfl); (case hr => first | (go_simp; done) | (go_simp; rfl)); intro gb356 hg w17 hbox hb; have n0_ := Sq.T HO_3 hb; have n1_ := Sq.S HB hb; have n2_ := Aside0.mk (hbox); have n3_ := Aside0.mk ((by rw [hg]; exact (below_size (Sq.B HB)) : w.heap.size ≤ gb356)); have n4_ := Aside0.mk ((by rw [hg]; exact (below_size (Sq.B HB)) : w.heap.size ≤ gb356)); replace HO_3 := n0_; replace HB := n1_; have BK356 := n2_; have GW356 := n3_; have GE356 := n4_; clear n0_ n1_ n2_ n3_ n4_; clear hb hbox hg) | ((with_reducible refine gate_dst (N := 11) rfl ?_); (try (refine gate_guard (by rfl) ?_; dsimp only)); refine box_event ?hg (N := 11) ?hd (cs := #[.int .i64 0, .int .i64 0]) (t := 36) ?hr ?_; (case hd => rfl); (case hg => rfl); (case hr => first | (go_simp; done) | (go_simp; rfl)); intro gb357 hg w18 hbox hb; have n0_ := Sq.T HO_3 hb; have n1_ := Aside0.mk (blk_below (g := gb356) (o := .cells #[.int .i64 0, .int .i64 0] 36 (0, 0)) (by (with_reducible repeat first | apply blk_drewN | apply blk_drew | apply blk_alloc); exact BK356.out) hb); have n2_ := Aside0.mk (below_step (by repeat (first | (with_reducible first | exact HB.out | apply below_alloc | apply pw_below_drewN | apply below_drew1 | refine below_set ?_ GE356.out) | exact HB.out)) hb); have n3_ := Aside0.mk (hbox); have n4_ := Aside0.mk ((by rw [hg]; exact (below_size (by repeat (first | (with_reducible first | exact HB.out | apply below_alloc | apply pw_below_drewN | apply below_drew1 | refine below_set ?_ GE356.out) | exact HB.out))) : w.heap.size ≤ gb357)); have n5_ := Aside0.mk ((by rw [hg]; exact (below_size (by repeat (first | (with_reducible first | exact HB.out | apply below_alloc | apply pw_below_drewN | apply below_drew1 | refine below_set ?_ GE356.out) | exact HB.out))) : w.heap.size ≤ gb357)); have n6_ := Aside0.mk ((by rw [hg]; exact Nat.ne_of_lt (blk_lt (g := gb356) (o := .cells #[.int .i64 0, .int .i64 0] 36 (0, 0)) (by (with_reducible repeat first | apply blk_drewN | apply blk_drew | apply blk_alloc); exact BK356.out)) : gb356 ≠ gb357)); have n7_ := Aside0.mk ((by rw [hg]; exact Nat.ne_of_gt (blk_lt (g := gb356) (o := .cells #[.int .i64 0, .int .i64 0] 36 (0, 0)) (by (with_reducible repeat first | apply blk_drewN | apply blk_drew | apply blk_alloc); exact BK356.out)) : gb357 ≠ gb356)); clear HO_3; clear BK356; clear HB; have HO_3 := n0_; have BK356 := n1_; have HB := n2_; have BK357 := n3_; have GW357 := n4_; have GE357 := n5_; have NB356_357 := n6_; have NB357_356 := n7_; clear n0_ n1_ n2_ n3_ n4_ n5_ n6_ n7_; clear hb hbox hg; have hnb19 := NB356_357.out; have hnc19 := NB357_356.out; have hcz20_0 : w18.cell? ⟨gb356, 0, none⟩ = some (.int .i64 0) := (blk_cell BK356.out 0).trans rfl; have hcz20_1 : w18.cell? ⟨gb356, 1, none⟩ = some (.int .i64 0) := (blk_cell BK356.out 1).trans rfl; have hfz20_0 := blk_frozen BK356.out 0; have hfz20_1 := blk_frozen BK356.out 1; have hcz21_0 : w18.cell? ⟨gb357, 0, none⟩ = some (.int .i64 0) := (blk_cell BK357.out 0).trans rfl; have hcz21_1 : w18.cell? ⟨gb357, 1, none⟩ = some (.int .i64 0) := (blk_cell BK357.out 1).trans rfl; have hfz21_0 := blk_frozen BK357.out 0; have hfz21_1 := blk_frozen BK357.out 1) | ((with_reducible refine gate_callee (f := 18) rfl ?_); refine goesL_ (some 88) rfl rfl Try.func18 (by kernel_rfl) rfl #[.slice Ao9 t342.length co9, .int .i64 t343, .int .i64 t344] rfl (by (try simp only [List.map_toArray, List.map_cons, List.map_nil]); first | done | rfl | (simp only [List.length_drop, List.length_take]; rfl)) ?_; (with_reducible refine (spec_ReactionsOf.calls kj6 _ _ t342 t343 t344 t358 t359 t360 t361 t362 _ ?side1 ?side2 A14.out).mono ?_); (case side1 => refine (Kd.R_reads' (e := 33) (base := w.heap.size) (ok := fun k_ => True) (n := t342.length) (c := co9) ?_).2.2; exact (by (with_reducible repeat (first | apply Kd.R_alloc | apply Kd.R_drewN | apply Kd.R_drew)); exact (Kd.R_mono (Kd.R_mono (Kd.R_far (p := ⟨gb357, 1, none⟩) (Kd.R_far (p := ⟨gb357, 0, none⟩) (Kd.R_far (p := ⟨gb356, 1, none⟩) (Kd.R_far (p := ⟨gb356, 0, none⟩) (Kd.R_types (Kd.R_types HO_3.out BK356.out (by decide)) BK357.out (by decide)) (fun _ hk => hk.1.2) (.int .i64 t351)) (fun _ hk => hk.1.2) (.int .i64 t352)) (fun _ hk => hk.2) (.int .i64 t353)) (fun _ hk => hk.2) (.int .i64 t354)) (fun _ h_ => h_.1)) (fun _ h_ => h_.1)))); (case side2 => exact Sq.n HO_3); rintro e w22 ⟨rfl, hb⟩; refine ⟨_, rfl, ?_⟩; have n0_ := Aside0.mk (Kd.R_below (by (with_reducible repeat (first | apply Kd.R_alloc | apply Kd.R_drewN | apply Kd.R_drew)); exact (Kd.R_mono (Kd.R_mono (Kd.R_far (p := ⟨gb357, 1, none⟩) (Kd.R_far (p := ⟨gb357, 0, none⟩) (Kd.R_far (p := ⟨gb356, 1, none⟩) (Kd.R_far (p := ⟨gb356, 0, none⟩) (Kd.R_types (Kd.R_types HO_3.out BK356.out (by decide)) BK357.out (by decide)) (fun _ hk => hk.1.2) (.int .i64 t351)) (fun _ hk => hk.1.2) (.int .i64 t352)) (fun _ hk => hk.2) (.int .i64 t353)) (fun _ hk => hk.2) (.int .i64 t354)) (fun _ h_ => h_.1)) (fun _ h_ => h_.1))) hb); have n1_ := Aside0.mk (blk_below (g := gb356) (o := .cells #[.int .i64 t351, .int .i64 t352] 36 (0, 0)) (by (with_reducible repeat first | apply blk_drewN | apply blk_drew | apply blk_alloc); refine blk_far ?_ NB356_357.out _; (with_reducible repeat first | apply blk_drewN | apply blk_drew | apply blk_alloc); refine blk_far ?_ NB356_357.out _; (with_reducible repeat first | apply blk_drewN | apply blk_drew | apply blk_alloc); refine blk_put (cs := #[.int .i64 t351, .int .i64 0]) ?_ 1 _ rfl; (with_reducible repeat first | apply blk_drewN | apply blk_drew | apply blk_alloc); refine blk_put (cs := #[.int .i64 0, .int .i64 0]) ?_ 0 _ rfl; (with_reducible repeat first | apply blk_drewN | apply blk_drew | apply blk_alloc); exact BK356.out) hb); have n2_ := Aside0.mk (blk_below (g := gb357) (o := .cells #[.int .i64 t353, .int .i64 t354] 36 (0, 0)) (by (with_reducible repeat first | apply blk_drewN | apply blk_drew | apply blk_alloc); refine blk_put (cs := #[.int .i64 t353, .int .i64 0]) ?_ 1 _ rfl; (with_reducible repeat first | apply blk_drewN | apply blk_drew | apply blk_alloc); refine blk_put (cs := #[.int .i64 0, .int .i64 0]) ?_ 0 _ rfl; (with_reducible repeat first | apply blk_drewN | apply blk_drew | apply blk_alloc); refine blk_far ?_ NB357_356.out _; (with_reducible repeat first | apply blk_drewN | apply blk_drew | apply blk_alloc); refine blk_far ?_ NB357_356.out _; (with_reducible repeat first | apply blk_drewN | apply blk_drew | apply blk_alloc); exact BK357.out) hb); have n3_ := Aside0.mk (below_step (by repeat (first | (with_reducible first | exact HB.out | apply below_alloc | apply pw_below_drewN | apply below_drew1 | refine below_set ?_ GE356.out | refine below_set ?_ GE357.out) | exact HB.out)) hb); clear HO_3; clear BK356; clear BK357; clear HB; have HO_3 := n0_; have BK356 := n1_; have BK357 := n2_; have HB := n3_; clear n0_ n1_ n2_ n3_; (try clear hb); (try clear hb2); (try clear hk); (try clear hi)) | ((with_reducible refine gate_dst (N := 13) rfl ?_); (try (refine gate_guard (by rfl) ?_; dsimp only)); refine box_event ?hg (N := 13) ?hd (cs := #[.int .i64 0, .int .i64 0]) (t := 36) ?hr ?_; (case hd => rfl); (case hg => rfl); (case hr => first | (go_simp; done) | (go_simp; rfl)); intro gb363 hg w23 hbox hb; have n0_ := Sq.T HO_3 hb; have n1_ := Aside0.mk (blk_below (g := gb356) (o := .cells #[.int .i64 t351, .int .i64 t352] 36 (0, 0)) (by (with_reducible repeat first | apply blk_drewN | apply blk_drew | apply blk_alloc); exact BK356.out) hb); have n2_ := Aside0.mk (blk_below (g := gb357) (o := .cells #[.int .i64 t353, .int .i64 t354] 36 (0, 0)) (by (with_reducible repeat first | apply blk_drewN | apply blk_drew | apply blk_alloc); exact BK357.out) hb); have n3_ := Aside0.mk (below_step (by repeat (first | (with_reducible first | exact HB.out | apply below_alloc | apply pw_below_drewN | apply below_drew1 | refine below_set ?_ GE356.out | refine below_set ?_ GE357.out) | exact HB.out)) hb); have n4_ := Aside0.mk (hbox); have n5_ := Aside0.mk ((by rw [hg]; exact (below_size (by repeat (first | (with_reducible first | exact HB.out | apply below_alloc | apply pw_below_drewN | apply below_drew1 | refine below_set ?_ GE356.out | refine below_set ?_ GE357.out) | exact HB.out))) : w.heap.size ≤ gb363)); have n6_ := Aside0.mk ((by rw [hg]; exact (below_size (by repeat (first | (with_reducible first | exact HB.out | apply below_alloc | apply pw_below_drewN | apply below_drew1 | refine below_set ?_ GE356.out | refine below_set ?_ GE357.out) | exact HB.out))) : w.heap.size ≤ gb363)); have n7_ := Aside0.mk ((by rw [hg]; exact Nat.ne_of_lt (blk_lt (g := gb356) (o := .cells #[.int .i64 t351, .int .i64 t352] 36 (0, 0)) (by (with_reducible repeat first | apply blk_drewN | apply blk_drew | apply blk_alloc); exact BK356.out)) : gb356 ≠ gb363)); have n8_ := Aside0.mk ((by rw [hg]; exact Nat.ne_of_gt (blk_lt (g := gb356) (o := .cells #[.int .i64 t351, .int .i64 t352] 36 (0, 0)) (by (with_reducible repeat first | apply blk_drewN | apply blk_drew | apply blk_alloc); exact BK356.out)) : gb363 ≠ gb356)); have n9_ := Aside0.mk ((by rw [hg]; exact Nat.ne_of_lt (blk_lt (g := gb357) (o := .cells #[.int .i64 t353, .int .i64 t354] 36 (0, 0)) (by (with_reducible repeat first | apply blk_drewN | apply blk_drew | apply blk_alloc); exact BK357.out)) : gb357 ≠ gb363)); have n10_ := Aside0.mk ((by rw [hg]; exact Nat.ne_of_gt (blk_lt (g := gb357) (o := .cells #[.int .i64 t353, .int .i64 t354] 36 (0, 0)) (by (with_reducible repeat first | apply blk_drewN | apply blk_drew | apply blk_alloc); exact BK357.out)) : gb363 ≠ gb357)); clear HO_3; clear BK356; clear BK357; clear HB; have HO_3 := n0_; have BK356 := n1_; have BK357 := n2_; have HB := n3_; have BK363 := n4_; have GW363 := n5_; have GE363 := n6_; have NB356_363 := n7_; have NB363_356 := n8_; have NB357_363 := n9_; have NB363_357 := n10_; clear n0_ n1_ n2_ n3_ n4_ n5_ n6_ n7_ n8_ n9_ n10_; clear hb hbox hg) | ((with_reducible refine gate_dst (N := 14) rfl ?_); (try (refine gate_guard (by rfl) ?_; dsimp only)); refine box_event ?hg (N := 14) ?hd (cs := #[.int .i64 0, .int .i64 0]) (t := 36) ?hr ?_; (case hd => rfl); (case hg => rfl); (case hr => first | (go_simp; done) | (go_simp; rfl)); intro gb364 hg w24 hbox hb; have n0_ := Sq.T HO_3 hb; have n1_ := Aside0.mk (blk_below (g := gb356) (o := .cells #[.int .i64 t351, .int .i64 t352] 36 (0, 0)) (by (with_reducible repeat first | apply blk_drewN | apply blk_drew | apply blk_alloc); exact BK356.out) hb); have n2_ := Aside0.mk (blk_below (g := gb357) (o := .cells #[.int .i64 t353, .int .i64 t354] 36 (0, 0)) (by (with_reducible repeat first | apply blk_drewN | apply blk_drew | apply blk_alloc); exact BK357.out) hb); have n3_ := Aside0.mk (blk_below (g := gb363) (o := .cells #[.int .i64 0, .int .i64 0] 36 (0, 0)) (by (with_reducible repeat first | apply blk_drewN | apply blk_drew | apply blk_alloc); exact BK363.out) hb); have n4_ := Aside0.mk (below_step (by repeat (first | (with_reducible first | exact HB.out | apply below_alloc | apply pw_below_drewN | apply below_drew1 | refine below_set ?_ GE356.out | refine below_set ?_ GE357.out | refine below_set ?_ GE363.out) | exact HB.out)) hb); have n5_ := Aside0.mk (hbox); have n6_ := Aside0.mk ((by rw [hg]; exact (below_size (by repeat (first | (with_reducible first | exact HB.out | apply below_alloc | apply pw_below_drewN | apply below_drew1 | refine below_set ?_ GE356.out | refine below_set ?_ GE357.out | refine below_set ?_ GE363.out) | exact HB.out))) : w.heap.size ≤ gb364)); have n7_ := Aside0.mk ((by rw [hg]; exact (below_size (by repeat (first | (with_reducible first | exact HB.out | apply below_alloc | apply pw_below_drewN | apply below_drew1 | refine below_set ?_ GE356.out | refine below_set ?_ GE357.out | refine below_set ?_ GE363.out) | exact HB.out))) : w.heap.size ≤ gb364)); have n8_ := Aside0.mk ((by rw [hg]; exact Nat.ne_of_lt (blk_lt (g := gb356) (o := .cells #[.int .i64 t351, .int .i64 t352] 36 (0, 0)) (by (with_reducible repeat first | apply blk_drewN | apply blk_drew | apply blk_alloc); exact BK356.out)) : gb356 ≠ gb364)); have n9_ := Aside0.mk ((by rw [hg]; exact Nat.ne_of_gt (blk_lt (g := gb356) (o := .cells #[.int .i64 t351, .int .i64 t352] 36 (0, 0)) (by (with_reducible repeat first | apply blk_drewN | apply blk_drew | apply blk_alloc); exact BK356.out)) : gb364 ≠ gb356)); have n10_ := Aside0.mk ((by rw [hg]; exact Nat.ne_of_lt (blk_lt (g := gb357) (o := .cells #[.int .i64 t353, .int .i64 t354] 36 (0, 0)) (by (with_reducible repeat first | apply blk_drewN | apply blk_drew | apply blk_alloc); exact BK357.out)) : gb357 ≠ gb364)); have n11_ := Aside0.mk ((by rw [hg]; exact Nat.ne_of_gt (blk_lt (g := gb357) (o := .cells #[.int .i64 t353, .int .i64 t354] 36 (0, 0)) (by (with_reducible repeat first | apply blk_drewN | apply blk_drew | apply blk_alloc); exact BK357.out)) : gb364 ≠ gb357)); have n12_ := Aside0.mk ((by rw [hg]; exact Nat.ne_of_lt (blk_lt (g := gb363) (o := .cells #[.int .i64 0, .int .i64 0] 36 (0, 0)) (by (with_reducible repeat first | apply blk_drewN | apply blk_drew | apply blk_alloc); exact BK363.out)) : gb363 ≠ gb364)); have n13_ := Aside0.mk ((by rw [hg]; exact Nat.ne_of_gt (blk_lt (g := gb363) (o := .cells #[.int .i64 0, .int .i64 0] 36 (0, 0)) (by (with_reducible repeat first | apply blk_drewN | apply blk_drew | apply blk_alloc); exact BK363.out)) : gb364 ≠ gb363)); clear HO_3; clear BK356; clear BK357; clear BK363; clear HB; have HO_3 := n0_; have BK356 := n1_; have BK357 := n2_; have BK363 := n3_; have HB := n4_; have BK364 := n5_; have GW364 := n6_; have GE364 := n7_; have NB356_364 := n8_; have NB364_356 := n9_; have NB357_364 := n10_; have NB364_357 := n11_; have NB363_364 := n12_; have NB364_363 := n13_; clear n0_ n1_ n2_ n3_ n4_ n5_ n6_ n7_ n8_ n9_ n10_ n11_ n12_ n13_; clear hb hbox hg; have hnb25 := NB363_356.out; have hnc25 := NB356_363.out; have hnb26 := NB363_357.out; have hnc26 := NB357_363.out; have hnb27 := NB363_364.out; have hnc27 := NB364_363.out; have hcz28_0 : w24.cell? ⟨gb363, 0, none⟩ = some (.int .i64 0) := (blk_cell BK363.out 0).trans rfl; have hcz28_1 : w24.cell? ⟨gb363, 1, none⟩ = some (.int .i64 0) := (blk_cell BK363.out 1).trans rfl; have hfz28_0 := blk_frozen BK363.out 0; have hfz28_1 := blk_frozen BK363.out 1; have hnb29 := NB364_356.out; have hnc29 := NB356_364.out; have hnb30 := NB364_357.out; have hnc30 := NB357_364.out; have hcz31_0 : w24.cell? ⟨gb364, 0, none⟩ = some (.int .i64 0) := (blk_cell BK364.out 0).trans rfl; have hcz31_1 : w24.cell? ⟨gb364, 1, none⟩ = some (.int .i64 0) := (blk_cell BK364.out 1).trans rfl; have hfz31_0 := blk_frozen BK364.out 0; have hfz31_1 := blk_frozen BK364.out 1))
     (try simp only [Act.put, List.setIfInBounds_toArray, List.set_cons_zero, List.set_cons_succ])
     go_cut [104] (fun v104 wc => ∃ (kq : Nat) (x104_14 : Bool), v104 = .bool x104_14 ∧ Aside0 (laws_FnCentres.j1 kq l0 t342 t343 t344 t347 t348 t355 x104_14 t351 t352 t353 t354 = some r) ∧ Aside0 (kq ≤ kj6) ∧ Aside0 (Kd.R k33 33 wc w.heap.size (fun _ => True) (.slice Ao9 t342.length co9) t342) ∧ Aside0 (wc.heap[gb356]? = some (.cells #[.int .i64 t351, .int .i64 t352] 36 (0, 0))) ∧ Aside0 (wc.heap[gb357]? = some (.cells #[.int .i64 t353, .int .i64 t354] 36 (0, 0))) ∧ Aside0 (wc.heap[gb363]? = some (.cells #[.int .i64 t358, .int .i64 t359] 36 (0, 0))) ∧ Aside0 (wc.heap[gb364]? = some (.cells #[.int .i64 t360, .int .i64 t361] 36 (0, 0))) ∧ Aside0 (Below w.heap.size w wc))
     case first =>
      have H := HC15.out
      clear HC15
      by_cases c32 : t351 = t358
      rotate_left
      ·rw [if_neg c32] at H
       have c32b0 : (t351 == t358) = false := beq_eq_false_iff_ne.mpr c32
       have c32b1 : (t351 != t358) = true := bne_iff_ne.mpr c32
       (first | rw [c32b0] | (simp only [i64_w, i32_w]; rw [c32b0]) | skip)
       exact (laws_FnCentres.j1_bad _ H hr).elim
      rw [if_pos c32] at H
      have c32b0 : (t351 == t358) = true := beq_iff_eq.mpr c32
      have c32b1 : (t351 != t358) = false := bne_eq_false_iff_eq.mpr c32
      clear c32
      (first | rw [c32b0] | (simp only [i64_w, i32_w]; rw [c32b0]) | skip)
      by_cases c33 : t352 = t359
      rotate_left
      ·rw [if_neg c33] at H
       have c33b0 : (t352 == t359) = false := beq_eq_false_iff_ne.mpr c33
       have c33b1 : (t352 != t359) = true := bne_iff_ne.mpr c33
       exact (laws_FnCentres.j1_bad _ H hr).elim
      rw [if_pos c33] at H
      have c33b0 : (t352 == t359) = true := beq_iff_eq.mpr c33
      have c33b1 : (t352 != t359) = false := bne_eq_false_iff_eq.mpr c33
      clear c33
      by_cases c34 : t353 = t360
      rotate_left
      ·rw [if_neg c34] at H
       have c34b0 : (t353 == t360) = false := beq_eq_false_iff_ne.mpr c34
       have c34b1 : (t353 != t360) = true := bne_iff_ne.mpr c34
       exact (laws_FnCentres.j1_bad _ H hr).elim
      rw [if_pos c34] at H
      have c34b0 : (t353 == t360) = true := beq_iff_eq.mpr c34
      have c34b1 : (t353 != t360) = false := bne_eq_false_iff_eq.mpr c34
      clear c34
      by_cases c35 : t354 = t361
      rotate_left
      ·rw [if_neg c35] at H
       have c35b0 : (t354 == t361) = false := beq_eq_false_iff_ne.mpr c35
       have c35b1 : (t354 != t361) = true := bne_iff_ne.mpr c35
       exact (laws_FnCentres.j1_bad _ H hr).elim
      rw [if_pos c35] at H
      have c35b0 : (t354 == t361) = true := beq_iff_eq.mpr c35
      have c35b1 : (t354 != t361) = false := bne_eq_false_iff_eq.mpr c35
      clear c35
      as_aux_lemma =>
       have H' := Aside0.mk H
       clear H; have hnb36 := NB356_357.out; have hnc36 := NB357_356.out; have hnb37 := NB356_363.out; have hnc37 := NB363_356.out; have hnb38 := NB356_364.out; have hnc38 := NB364_356.out
       have hcz39_0 : w24.cell? ⟨gb356, 0, none⟩ = some (.int .i64 t351) := (blk_cell BK356.out 0).trans rfl
       have hcz39_1 : w24.cell? ⟨gb356, 1, none⟩ = some (.int .i64 t352) := (blk_cell BK356.out 1).trans rfl
       have hfz39_0 := blk_frozen BK356.out 0
       have hfz39_1 := blk_frozen BK356.out 1
       have hnb40 := NB363_357.out; have hnc40 := NB357_363.out; have hnb41 := NB363_364.out; have hnc41 := NB364_363.out
       have hcz42_0 : w24.cell? ⟨gb363, 0, none⟩ = some (.int .i64 0) := (blk_cell BK363.out 0).trans rfl
       have hcz42_1 : w24.cell? ⟨gb363, 1, none⟩ = some (.int .i64 0) := (blk_cell BK363.out 1).trans rfl
       have hfz42_0 := blk_frozen BK363.out 0
       have hfz42_1 := blk_frozen BK363.out 1
       have hnb43 := NB357_364.out; have hnc43 := NB364_357.out
       have hcz44_0 : w24.cell? ⟨gb357, 0, none⟩ = some (.int .i64 t353) := (blk_cell BK357.out 0).trans rfl
       have hcz44_1 : w24.cell? ⟨gb357, 1, none⟩ = some (.int .i64 t354) := (blk_cell BK357.out 1).trans rfl
       have hfz44_0 := blk_frozen BK357.out 0
       have hfz44_1 := blk_frozen BK357.out 1
       have hcz45_0 : w24.cell? ⟨gb364, 0, none⟩ = some (.int .i64 0) := (blk_cell BK364.out 0).trans rfl
       have hcz45_1 : w24.cell? ⟨gb364, 1, none⟩ = some (.int .i64 0) := (blk_cell BK364.out 1).trans rfl
       have hfz45_0 := blk_frozen BK364.out 0
       have hfz45_1 := blk_frozen BK364.out 1
       go_wp2
       go_meet
       case rel => exact ⟨_, ((t355 != t362)), (by first | rfl | (simp; done) | (simp [*]; done) | (simp [bne]; done)), H', ⟨by have := HJ6.out; first | omega | exact Nat.le_refl _⟩, ⟨by (with_reducible repeat (first | apply Kd.R_alloc | apply Kd.R_drewN | apply Kd.R_drew)); exact Kd.R_mono (Kd.R_far (p := ⟨gb364, 1, none⟩) (Kd.R_far (p := ⟨gb364, 0, none⟩) (Kd.R_far (p := ⟨gb363, 1, none⟩) (Kd.R_far (p := ⟨gb363, 0, none⟩) (Kd.R_types (Kd.R_types HO_3.out BK363.out (by decide)) BK364.out (by decide)) (fun _ hk => hk.1.2) (.int .i64 t358)) (fun _ hk => hk.1.2) (.int .i64 t359)) (fun _ hk => hk.2) (.int .i64 t360)) (fun _ hk => hk.2) (.int .i64 t361)) (fun _ hk => trivial)⟩, ⟨by (with_reducible repeat first | apply blk_drewN | apply blk_drew | apply blk_alloc); refine blk_far ?_ NB356_364.out _; (with_reducible repeat first | apply blk_drewN | apply blk_drew | apply blk_alloc); refine blk_far ?_ NB356_364.out _; (with_reducible repeat first | apply blk_drewN | apply blk_drew | apply blk_alloc); refine blk_far ?_ NB356_363.out _; (with_reducible repeat first | apply blk_drewN | apply blk_drew | apply blk_alloc); refine blk_far ?_ NB356_363.out _; (with_reducible repeat first | apply blk_drewN | apply blk_drew | apply blk_alloc); exact BK356.out⟩, ⟨by (with_reducible repeat first | apply blk_drewN | apply blk_drew | apply blk_alloc); refine blk_far ?_ NB357_364.out _; (with_reducible repeat first | apply blk_drewN | apply blk_drew | apply blk_alloc); refine blk_far ?_ NB357_364.out _; (with_reducible repeat first | apply blk_drewN | apply blk_drew | apply blk_alloc); refine blk_far ?_ NB357_363.out _; (with_reducible repeat first | apply blk_drewN | apply blk_drew | apply blk_alloc); refine blk_far ?_ NB357_363.out _; (with_reducible repeat first | apply blk_drewN | apply blk_drew | apply blk_alloc); exact BK357.out⟩, ⟨by (with_reducible repeat first | apply blk_drewN | apply blk_drew | apply blk_alloc); refine blk_far ?_ NB363_364.out _; (with_reducible repeat first | apply blk_drewN | apply blk_drew | apply blk_alloc); refine blk_far ?_ NB363_364.out _; (with_reducible repeat first | apply blk_drewN | apply blk_drew | apply blk_alloc); refine blk_put (cs := #[.int .i64 t358, .int .i64 0]) ?_ 1 _ rfl; (with_reducible repeat first | apply blk_drewN | apply blk_drew | apply blk_alloc); refine blk_put (cs := #[.int .i64 0, .int .i64 0]) ?_ 0 _ rfl; (with_reducible repeat first | apply blk_drewN | apply blk_drew | apply blk_alloc); exact BK363.out⟩, ⟨by (with_reducible repeat first | apply blk_drewN | apply blk_drew | apply blk_alloc); refine blk_put (cs := #[.int .i64 t360, .int .i64 0]) ?_ 1 _ rfl; (with_reducible repeat first | apply blk_drewN | apply blk_drew | apply blk_alloc); refine blk_put (cs := #[.int .i64 0, .int .i64 0]) ?_ 0 _ rfl; (with_reducible repeat first | apply blk_drewN | apply blk_drew | apply blk_alloc); refine blk_far ?_ NB364_363.out _; (with_reducible repeat first | apply blk_drewN | apply blk_drew | apply blk_alloc); refine blk_far ?_ NB364_363.out _; (with_reducible repeat first | apply blk_drewN | apply blk_drew | apply blk_alloc); exact BK364.out⟩, ⟨by repeat (first | (with_reducible first | exact HB.out | apply below_alloc | apply pw_below_drewN | apply below_drew1 | refine below_set ?_ GE356.out | refine below_set ?_ GE357.out | refine below_set ?_ GE363.out | refine below_set ?_ GE364.out) | exact HB.out)⟩⟩
     case rest =>
      clear HC15
      obtain ⟨kq, x104_14, rfl, HA, HJ14, HO_3, BK356, BK357, BK363, BK364, HB⟩ := hcut
      cases kq with
      | zero => exact absurd HA.out (by simp [laws_FnCentres.j1])
      | succ kj14 =>
       have H := HA.out
       clear HA
       simp only [laws_FnCentres.j1] at H
       by_cases c46 : x104_14 = true
       ·subst c46
        rw [if_pos rfl] at H
        obtain rfl := Option.some.inj H
        cases hr
       replace c46 := Bool.eq_false_iff.mpr c46
       subst c46
       rw [if_neg (show ¬ (false = true) by decide)] at H
       replace H := Option.bind_eq_some_iff.mp H
       obtain ⟨⟨t365, t366⟩, A470, H⟩ := H
       try dsimp only at H
       have A47 := Aside0.mk A470
       clear A470
       replace H := Option.bind_eq_some_iff.mp H
       obtain ⟨⟨t367, t368⟩, A480, H⟩ := H
       try dsimp only at H
       have A48 := Aside0.mk A480
       clear A480
       have HC49 := Aside0.mk H
       clear H
       as_aux_lemma =>
        go_upto_region 14 with (first | ((with_reducible refine gate_callee (f := 19) rfl ?_); refine goesL_ (some 107) rfl rfl Try.func19 (by kernel_rfl) rfl #[.slice Ao9 t342.length co9] rfl (by (try simp only [List.map_toArray, List.map_cons, List.map_nil]); first | done | rfl | (simp only [List.length_drop, List.length_take]; rfl)) ?_; (with_reducible refine (impl_WeightOf.calls kj14 _ _ t342 t365 t366 _ (Sq.r HO_3) (Sq.n HO_3) A47.out).mono ?_); rintro e w50 ⟨rfl, hb⟩; refine ⟨_, rfl, ?_⟩; have n0_ := Sq.T HO_3 hb; have n1_ := Aside0.mk (blk_below (g := gb356) (o := .cells #[.int .i64 t351, .int .i64 t352] 36 (0, 0)) (by (with_reducible repeat first | apply blk_drewN | apply blk_drew | apply blk_alloc); exact BK356.out) hb); have n2_ := Aside0.mk (blk_below (g := gb357) (o := .cells #[.int .i64 t353, .int .i64 t354] 36 (0, 0)) (by (with_reducible repeat first | apply blk_drewN | apply blk_drew | apply blk_alloc); exact BK357.out) hb); have n3_ := Aside0.mk (blk_below (g := gb363) (o := .cells #[.int .i64 t358, .int .i64 t359] 36 (0, 0)) (by (with_reducible repeat first | apply blk_drewN | apply blk_drew | apply blk_alloc); exact BK363.out) hb); have n4_ := Aside0.mk (blk_below (g := gb364) (o := .cells #[.int .i64 t360, .int .i64 t361] 36 (0, 0)) (by (with_reducible repeat first | apply blk_drewN | apply blk_drew | apply blk_alloc); exact BK364.out) hb); have n5_ := Aside0.mk (below_step (by repeat (first | (with_reducible first | exact HB.out | apply below_alloc | apply pw_below_drewN | apply below_drew1 | refine below_set ?_ GE356.out | refine below_set ?_ GE357.out | refine below_set ?_ GE363.out | refine below_set ?_ GE364.out) | exact HB.out)) hb); clear HO_3; clear BK356; clear BK357; clear BK363; clear BK364; clear HB; have HO_3 := n0_; have BK356 := n1_; have BK357 := n2_; have BK363 := n3_; have BK364 := n4_; have HB := n5_; clear n0_ n1_ n2_ n3_ n4_ n5_; (try clear hb); (try clear hb2); (try clear hk); (try clear hi)) | ((with_reducible refine gate_callee (f := 20) rfl ?_); refine goesL_ (some 112) rfl rfl Try.func20 (by kernel_rfl) rfl #[.slice Ao9 t342.length co9] rfl (by (try simp only [List.map_toArray, List.map_cons, List.map_nil]); first | done | rfl | (simp only [List.length_drop, List.length_take]; rfl)) ?_; (with_reducible refine (spec_WeightOf.calls kj14 _ _ t342 t367 t368 _ (Sq.r HO_3) (Sq.n HO_3) A48.out).mono ?_); rintro e w' ⟨rfl, ⟨nd, rfl⟩⟩; refine ⟨_, rfl, ?_⟩))
        (try simp only [Act.put, List.setIfInBounds_toArray, List.set_cons_zero, List.set_cons_succ])
        go_cut [128] (fun v128 wc => ∃ (kq : Nat) (x128_48 : Bool), v128 = .bool x128_48 ∧ Aside0 (laws_FnCentres.j2 kq l0 t342 t343 t344 t347 t348 t355 t365 t366 x128_48 t351 t352 t353 t354 = some r) ∧ Aside0 (kq ≤ kj14) ∧ Aside0 (Kd.R k33 33 wc w.heap.size (fun _ => True) (.slice Ao9 t342.length co9) t342) ∧ Aside0 (wc.heap[gb356]? = some (.cells #[.int .i64 t351, .int .i64 t352] 36 (0, 0))) ∧ Aside0 (wc.heap[gb357]? = some (.cells #[.int .i64 t353, .int .i64 t354] 36 (0, 0))) ∧ Aside0 (wc.heap[gb363]? = some (.cells #[.int .i64 t358, .int .i64 t359] 36 (0, 0))) ∧ Aside0 (wc.heap[gb364]? = some (.cells #[.int .i64 t360, .int .i64 t361] 36 (0, 0))) ∧ Aside0 (Below w.heap.size w wc))
        case first =>
         have H := HC49.out
         clear HC49
         by_cases c51 : t365 = t367
         rotate_left
         ·rw [if_neg c51] at H
          have c51b0 : (t365 == t367) = false := beq_eq_false_iff_ne.mpr c51
          have c51b1 : (t365 != t367) = true := bne_iff_ne.mpr c51
          (first | rw [c51b0] | (simp only [i64_w, i32_w]; rw [c51b0]) | skip)
          exact (laws_FnCentres.j2_bad _ H hr).elim
         rw [if_pos c51] at H
         have c51b0 : (t365 == t367) = true := beq_iff_eq.mpr c51
         have c51b1 : (t365 != t367) = false := bne_eq_false_iff_eq.mpr c51
         clear c51
         (first | rw [c51b0] | (simp only [i64_w, i32_w]; rw [c51b0]) | skip)
         by_cases c52 : (t366 != t368) = true
         ·rw [if_pos c52] at H
          have c52b0 : (t366 != t368) = true := c52
          (try (have c52b1 : decide (t366 = t368) = false := by simpa using c52))
          (try (have c52b2 : (t366 == t368) = false := by simpa using c52))
          (try (have c52b3 : ¬ (t366 = t368) := by simpa using c52))
          clear c52
          exact (laws_FnCentres.j2_bad _ H hr).elim
         rw [if_neg c52] at H
         have c52b0 : (t366 != t368) = false := by simpa using c52
         (try (have c52b1 : decide (t366 = t368) = true := by simpa using c52))
         (try (have c52b2 : (t366 == t368) = true := by simpa using c52))
         clear c52
         replace H := Option.bind_eq_some_iff.mp H
         obtain ⟨t369, A530, H⟩ := H
         try dsimp only at H
         have A53 := Aside0.mk A530
         clear A530
         as_aux_lemma =>
          have H' := Aside0.mk H
          clear H
          go_wp2_with (first | (go_at_call 21; (with_reducible refine (impl_IsRow.calls _ _ t342 t369 _ (Sq.r HO_3) (Sq.n HO_3) A53.out).mono ?_); rintro e w54 ⟨rfl, hb⟩; have n0_ := Sq.T HO_3 hb; have n1_ := Aside0.mk (blk_below (g := gb356) (o := .cells #[.int .i64 t351, .int .i64 t352] 36 (0, 0)) (by (with_reducible repeat first | apply blk_drewN | apply blk_drew | apply blk_alloc); exact BK356.out) hb); have n2_ := Aside0.mk (blk_below (g := gb357) (o := .cells #[.int .i64 t353, .int .i64 t354] 36 (0, 0)) (by (with_reducible repeat first | apply blk_drewN | apply blk_drew | apply blk_alloc); exact BK357.out) hb); have n3_ := Aside0.mk (blk_below (g := gb363) (o := .cells #[.int .i64 t358, .int .i64 t359] 36 (0, 0)) (by (with_reducible repeat first | apply blk_drewN | apply blk_drew | apply blk_alloc); exact BK363.out) hb); have n4_ := Aside0.mk (blk_below (g := gb364) (o := .cells #[.int .i64 t360, .int .i64 t361] 36 (0, 0)) (by (with_reducible repeat first | apply blk_drewN | apply blk_drew | apply blk_alloc); exact BK364.out) hb); have n5_ := Aside0.mk (below_step (by repeat (first | (with_reducible first | exact HB.out | apply below_alloc | apply pw_below_drewN | apply below_drew1 | refine below_set ?_ GE356.out | refine below_set ?_ GE357.out | refine below_set ?_ GE363.out | refine below_set ?_ GE364.out) | exact HB.out)) hb); clear HO_3; clear BK356; clear BK357; clear BK363; clear BK364; clear HB; have HO_3 := n0_; have BK356 := n1_; have BK357 := n2_; have BK363 := n3_; have BK364 := n4_; have HB := n5_; clear n0_ n1_ n2_ n3_ n4_ n5_; (try clear hb); (try clear hb2); (try clear hk); (try clear hi)))
          go_meet
          case rel => exact ⟨_, ((t366 != t369)), (by first | rfl | (simp; done) | (simp [*]; done) | (simp [bne]; done)), H', ⟨by have := HJ6.out; have := HJ14.out; first | omega | exact Nat.le_refl _⟩, ⟨by (with_reducible repeat (first | apply Kd.R_alloc | apply Kd.R_drewN | apply Kd.R_drew)); exact HO_3.out⟩, ⟨by (with_reducible repeat first | apply blk_drewN | apply blk_drew | apply blk_alloc); exact BK356.out⟩, ⟨by (with_reducible repeat first | apply blk_drewN | apply blk_drew | apply blk_alloc); exact BK357.out⟩, ⟨by (with_reducible repeat first | apply blk_drewN | apply blk_drew | apply blk_alloc); exact BK363.out⟩, ⟨by (with_reducible repeat first | apply blk_drewN | apply blk_drew | apply blk_alloc); exact BK364.out⟩, ⟨by repeat (first | (with_reducible first | exact HB.out | apply below_alloc | apply pw_below_drewN | apply below_drew1 | refine below_set ?_ GE356.out | refine below_set ?_ GE357.out | refine below_set ?_ GE363.out | refine below_set ?_ GE364.out) | exact HB.out)⟩⟩
        case rest =>
         clear HC49
         obtain ⟨kq, x128_48, rfl, HA, HJ48, HO_3, BK356, BK357, BK363, BK364, HB⟩ := hcut
         cases kq with
         | zero => exact absurd HA.out (by simp [laws_FnCentres.j2])
         | succ kj48 =>
          have H := HA.out
          clear HA
          simp only [laws_FnCentres.j2] at H
          by_cases c55 : x128_48 = true
          ·subst c55
           rw [if_pos rfl] at H
           obtain rfl := Option.some.inj H
           cases hr
          replace c55 := Bool.eq_false_iff.mpr c55
          subst c55
          rw [if_neg (show ¬ (false = true) by decide)] at H
          replace H := Option.bind_eq_some_iff.mp H
          obtain ⟨⟨t370, t371, t372⟩, A560, H⟩ := H
          try dsimp only at H
          have A56 := Aside0.mk A560
          clear A560
          replace H := Option.bind_eq_some_iff.mp H
          obtain ⟨⟨t374, t375, t376⟩, A570, H⟩ := H
          try dsimp only at H
          have A57 := Aside0.mk A570
          clear A570
          have HC58 := Aside0.mk H
          clear H
          as_aux_lemma =>
           go_upto_region 18 with (first | ((with_reducible refine gate_callee (f := 22) rfl ?_); refine goesL_ (some 131) rfl rfl Try.func22 (by kernel_rfl) rfl #[.slice Ao9 t342.length co9] rfl (by (try simp only [List.map_toArray, List.map_cons, List.map_nil]); first | done | rfl | (simp only [List.length_drop, List.length_take]; rfl)) ?_; (with_reducible refine (impl_CentreOf.calls kj48 _ _ t342 t370 t371 t372 _ (Sq.r HO_3) (Sq.n HO_3) A56.out).mono ?_); rintro e w59 ⟨rfl, hb⟩; refine ⟨_, rfl, ?_⟩; have n0_ := Sq.T HO_3 hb; have n1_ := Aside0.mk (blk_below (g := gb356) (o := .cells #[.int .i64 t351, .int .i64 t352] 36 (0, 0)) (by (with_reducible repeat first | apply blk_drewN | apply blk_drew | apply blk_alloc); exact BK356.out) hb); have n2_ := Aside0.mk (blk_below (g := gb357) (o := .cells #[.int .i64 t353, .int .i64 t354] 36 (0, 0)) (by (with_reducible repeat first | apply blk_drewN | apply blk_drew | apply blk_alloc); exact BK357.out) hb); have n3_ := Aside0.mk (blk_below (g := gb363) (o := .cells #[.int .i64 t358, .int .i64 t359] 36 (0, 0)) (by (with_reducible repeat first | apply blk_drewN | apply blk_drew | apply blk_alloc); exact BK363.out) hb); have n4_ := Aside0.mk (blk_below (g := gb364) (o := .cells #[.int .i64 t360, .int .i64 t361] 36 (0, 0)) (by (with_reducible repeat first | apply blk_drewN | apply blk_drew | apply blk_alloc); exact BK364.out) hb); have n5_ := Aside0.mk (below_step (by repeat (first | (with_reducible first | exact HB.out | apply below_alloc | apply pw_below_drewN | apply below_drew1 | refine below_set ?_ GE356.out | refine below_set ?_ GE357.out | refine below_set ?_ GE363.out | refine below_set ?_ GE364.out) | exact HB.out)) hb); clear HO_3; clear BK356; clear BK357; clear BK363; clear BK364; clear HB; have HO_3 := n0_; have BK356 := n1_; have BK357 := n2_; have BK363 := n3_; have BK364 := n4_; have HB := n5_; clear n0_ n1_ n2_ n3_ n4_ n5_; (try clear hb); (try clear hb2); (try clear hk); (try clear hi)) | ((with_reducible refine gate_dst (N := 20) rfl ?_); (try (refine gate_guard (by rfl) ?_; dsimp only)); refine box_event ?hg (N := 20) ?hd (cs := #[.int .i64 0, .int .i64 0]) (t := 36) ?hr ?_; (case hd => rfl); (case hg => rfl); (case hr => first | (go_simp; done) | (go_simp; rfl)); intro gb373 hg w60 hbox hb; have n0_ := Sq.T HO_3 hb; have n1_ := Aside0.mk (blk_below (g := gb356) (o := .cells #[.int .i64 t351, .int .i64 t352] 36 (0, 0)) (by (with_reducible repeat first | apply blk_drewN | apply blk_drew | apply blk_alloc); exact BK356.out) hb); have n2_ := Aside0.mk (blk_below (g := gb357) (o := .cells #[.int .i64 t353, .int .i64 t354] 36 (0, 0)) (by (with_reducible repeat first | apply blk_drewN | apply blk_drew | apply blk_alloc); exact BK357.out) hb); have n3_ := Aside0.mk (blk_below (g := gb363) (o := .cells #[.int .i64 t358, .int .i64 t359] 36 (0, 0)) (by (with_reducible repeat first | apply blk_drewN | apply blk_drew | apply blk_alloc); exact BK363.out) hb); have n4_ := Aside0.mk (blk_below (g := gb364) (o := .cells #[.int .i64 t360, .int .i64 t361] 36 (0, 0)) (by (with_reducible repeat first | apply blk_drewN | apply blk_drew | apply blk_alloc); exact BK364.out) hb); have n5_ := Aside0.mk (below_step (by repeat (first | (with_reducible first | exact HB.out | apply below_alloc | apply pw_below_drewN | apply below_drew1 | refine below_set ?_ GE356.out | refine below_set ?_ GE357.out | refine below_set ?_ GE363.out | refine below_set ?_ GE364.out) | exact HB.out)) hb); have n6_ := Aside0.mk (hbox); have n7_ := Aside0.mk ((by rw [hg]; exact (below_size (by repeat (first | (with_reducible first | exact HB.out | apply below_alloc | apply pw_below_drewN | apply below_drew1 | refine below_set ?_ GE356.out | refine below_set ?_ GE357.out | refine below_set ?_ GE363.out | refine below_set ?_ GE364.out) | exact HB.out))) : w.heap.size ≤ gb373)); have n8_ := Aside0.mk ((by rw [hg]; exact (below_size (by repeat (first | (with_reducible first | exact HB.out | apply below_alloc | apply pw_below_drewN | apply below_drew1 | refine below_set ?_ GE356.out | refine below_set ?_ GE357.out | refine below_set ?_ GE363.out | refine below_set ?_ GE364.out) | exact HB.out))) : w.heap.size ≤ gb373)); have n9_ := Aside0.mk ((by rw [hg]; exact Nat.ne_of_lt (blk_lt (g := gb356) (o := .cells #[.int .i64 t351, .int .i64 t352] 36 (0, 0)) (by (with_reducible repeat first | apply blk_drewN | apply blk_drew | apply blk_alloc); exact BK356.out)) : gb356 ≠ gb373)); have n10_ := Aside0.mk ((by rw [hg]; exact Nat.ne_of_gt (blk_lt (g := gb356) (o := .cells #[.int .i64 t351, .int .i64 t352] 36 (0, 0)) (by (with_reducible repeat first | apply blk_drewN | apply blk_drew | apply blk_alloc); exact BK356.out)) : gb373 ≠ gb356)); have n11_ := Aside0.mk ((by rw [hg]; exact Nat.ne_of_lt (blk_lt (g := gb357) (o := .cells #[.int .i64 t353, .int .i64 t354] 36 (0, 0)) (by (with_reducible repeat first | apply blk_drewN | apply blk_drew | apply blk_alloc); exact BK357.out)) : gb357 ≠ gb373)); have n12_ := Aside0.mk ((by rw [hg]; exact Nat.ne_of_gt (blk_lt (g := gb357) (o := .cells #[.int .i64 t353, .int .i64 t354] 36 (0, 0)) (by (with_reducible repeat first | apply blk_drewN | apply blk_drew | apply blk_alloc); exact BK357.out)) : gb373 ≠ gb357)); have n13_ := Aside0.mk ((by rw [hg]; exact Nat.ne_of_lt (blk_lt (g := gb363) (o := .cells #[.int .i64 t358, .int .i64 t359] 36 (0, 0)) (by (with_reducible repeat first | apply blk_drewN | apply blk_drew | apply blk_alloc); exact BK363.out)) : gb363 ≠ gb373)); have n14_ := Aside0.mk ((by rw [hg]; exact Nat.ne_of_gt (blk_lt (g := gb363) (o := .cells #[.int .i64 t358, .int .i64 t359] 36 (0, 0)) (by (with_reducible repeat first | apply blk_drewN | apply blk_drew | apply blk_alloc); exact BK363.out)) : gb373 ≠ gb363)); have n15_ := Aside0.mk ((by rw [hg]; exact Nat.ne_of_lt (blk_lt (g := gb364) (o := .cells #[.int .i64 t360, .int .i64 t361] 36 (0, 0)) (by (with_reducible repeat first | apply blk_drewN | apply blk_drew | apply blk_alloc); exact BK364.out)) : gb364 ≠ gb373)); have n16_ := Aside0.mk ((by rw [hg]; exact Nat.ne_of_gt (blk_lt (g := gb364) (o := .cells #[.int .i64 t360, .int .i64 t361] 36 (0, 0)) (by (with_reducible repeat first | apply blk_drewN | apply blk_drew | apply blk_alloc); exact BK364.out)) : gb373 ≠ gb364)); clear HO_3; clear BK356; clear BK357; clear BK363; clear BK364; clear HB; have HO_3 := n0_; have BK356 := n1_; have BK357 := n2_; have BK363 := n3_; have BK364 := n4_; have HB := n5_; have BK373 := n6_; have GW373 := n7_; have GE373 := n8_; have NB356_373 := n9_; have NB373_356 := n10_; have NB357_373 := n11_; have NB373_357 := n12_; have NB363_373 := n13_; have NB373_363 := n14_; have NB364_373 := n15_; have NB373_364 := n16_; clear n0_ n1_ n2_ n3_ n4_ n5_ n6_ n7_ n8_ n9_ n10_ n11_ n12_ n13_ n14_ n15_ n16_; clear hb hbox hg; have hnb61 := NB373_356.out; have hnc61 := NB356_373.out; have hnb62 := NB373_357.out; have hnc62 := NB357_373.out; have hnb63 := NB373_363.out; have hnc63 := NB363_373.out; have hnb64 := NB373_364.out; have hnc64 := NB364_373.out; have hcz65_0 : w60.cell? ⟨gb373, 0, none⟩ = some (.int .i64 0) := (blk_cell BK373.out 0).trans rfl; have hcz65_1 : w60.cell? ⟨gb373, 1, none⟩ = some (.int .i64 0) := (blk_cell BK373.out 1).trans rfl; have hfz65_0 := blk_frozen BK373.out 0; have hfz65_1 := blk_frozen BK373.out 1) | ((with_reducible refine gate_callee (f := 23) rfl ?_); refine goesL_ (some 136) rfl rfl Try.func23 (by kernel_rfl) rfl #[.slice Ao9 t342.length co9] rfl (by (try simp only [List.map_toArray, List.map_cons, List.map_nil]); first | done | rfl | (simp only [List.length_drop, List.length_take]; rfl)) ?_; (with_reducible refine (spec_CentreOf.calls kj48 _ _ t342 t374 t375 t376 _ ?side1 ?side2 A57.out).mono ?_); (case side1 => refine (Kd.R_reads' (e := 33) (base := w.heap.size) (ok := fun k_ => True) (n := t342.length) (c := co9) ?_).2.2; exact (by (with_reducible repeat (first | apply Kd.R_alloc | apply Kd.R_drewN | apply Kd.R_drew)); exact (Kd.R_mono (Kd.R_far (p := ⟨gb373, 1, none⟩) (Kd.R_far (p := ⟨gb373, 0, none⟩) (Kd.R_types HO_3.out BK373.out (by decide)) (fun _ hk => hk.2) (.int .i64 t370)) (fun _ hk => hk.2) (.int .i64 t371)) (fun _ h_ => h_.1)))); (case side2 => exact Sq.n HO_3); rintro e w66 ⟨rfl, hb⟩; refine ⟨_, rfl, ?_⟩; have n0_ := Aside0.mk (Kd.R_below (by (with_reducible repeat (first | apply Kd.R_alloc | apply Kd.R_drewN | apply Kd.R_drew)); exact (Kd.R_mono (Kd.R_far (p := ⟨gb373, 1, none⟩) (Kd.R_far (p := ⟨gb373, 0, none⟩) (Kd.R_types HO_3.out BK373.out (by decide)) (fun _ hk => hk.2) (.int .i64 t370)) (fun _ hk => hk.2) (.int .i64 t371)) (fun _ h_ => h_.1))) hb); have n1_ := Aside0.mk (blk_below (g := gb356) (o := .cells #[.int .i64 t351, .int .i64 t352] 36 (0, 0)) (by (with_reducible repeat first | apply blk_drewN | apply blk_drew | apply blk_alloc); refine blk_far ?_ NB356_373.out _; (with_reducible repeat first | apply blk_drewN | apply blk_drew | apply blk_alloc); refine blk_far ?_ NB356_373.out _; (with_reducible repeat first | apply blk_drewN | apply blk_drew | apply blk_alloc); exact BK356.out) hb); have n2_ := Aside0.mk (blk_below (g := gb357) (o := .cells #[.int .i64 t353, .int .i64 t354] 36 (0, 0)) (by (with_reducible repeat first | apply blk_drewN | apply blk_drew | apply blk_alloc); refine blk_far ?_ NB357_373.out _; (with_reducible repeat first | apply blk_drewN | apply blk_drew | apply blk_alloc); refine blk_far ?_ NB357_373.out _; (with_reducible repeat first | apply blk_drewN | apply blk_drew | apply blk_alloc); exact BK357.out) hb); have n3_ := Aside0.mk (blk_below (g := gb363) (o := .cells #[.int .i64 t358, .int .i64 t359] 36 (0, 0)) (by (with_reducible repeat first | apply blk_drewN | apply blk_drew | apply blk_alloc); refine blk_far ?_ NB363_373.out _; (with_reducible repeat first | apply blk_drewN | apply blk_drew | apply blk_alloc); refine blk_far ?_ NB363_373.out _; (with_reducible repeat first | apply blk_drewN | apply blk_drew | apply blk_alloc); exact BK363.out) hb); have n4_ := Aside0.mk (blk_below (g := gb364) (o := .cells #[.int .i64 t360, .int .i64 t361] 36 (0, 0)) (by (with_reducible repeat first | apply blk_drewN | apply blk_drew | apply blk_alloc); refine blk_far ?_ NB364_373.out _; (with_reducible repeat first | apply blk_drewN | apply blk_drew | apply blk_alloc); refine blk_far ?_ NB364_373.out _; (with_reducible repeat first | apply blk_drewN | apply blk_drew | apply blk_alloc); exact BK364.out) hb); have n5_ := Aside0.mk (blk_below (g := gb373) (o := .cells #[.int .i64 t370, .int .i64 t371] 36 (0, 0)) (by (with_reducible repeat first | apply blk_drewN | apply blk_drew | apply blk_alloc); refine blk_put (cs := #[.int .i64 t370, .int .i64 0]) ?_ 1 _ rfl; (with_reducible repeat first | apply blk_drewN | apply blk_drew | apply blk_alloc); refine blk_put (cs := #[.int .i64 0, .int .i64 0]) ?_ 0 _ rfl; (with_reducible repeat first | apply blk_drewN | apply blk_drew | apply blk_alloc); exact BK373.out) hb); have n6_ := Aside0.mk (below_step (by repeat (first | (with_reducible first | exact HB.out | apply below_alloc | apply pw_below_drewN | apply below_drew1 | refine below_set ?_ GE356.out | refine below_set ?_ GE357.out | refine below_set ?_ GE363.out | refine below_set ?_ GE364.out | refine below_set ?_ GE373.out) | exact HB.out)) hb); clear HO_3; clear BK356; clear BK357; clear BK363; clear BK364; clear BK373; clear HB; have HO_3 := n0_; have BK356 := n1_; have BK357 := n2_; have BK363 := n3_; have BK364 := n4_; have BK373 := n5_; have HB := n6_; clear n0_ n1_ n2_ n3_ n4_ n5_ n6_; (try clear hb); (try clear hb2); (try clear hk); (try clear hi)) | ((with_reducible refine gate_dst (N := 22) rfl ?_); (try (refine gate_guard (by rfl) ?_; dsimp only)); refine box_event ?hg (N := 22) ?hd (cs := #[.int .i64 0, .int .i64 0]) (t := 36) ?hr ?_; (case hd => rfl); (case hg => rfl); (case hr => first | (go_simp; done) | (go_simp; rfl)); intro gb377 hg w67 hbox hb; have n0_ := Sq.T HO_3 hb; have n1_ := Aside0.mk (blk_below (g := gb356) (o := .cells #[.int .i64 t351, .int .i64 t352] 36 (0, 0)) (by (with_reducible repeat first | apply blk_drewN | apply blk_drew | apply blk_alloc); exact BK356.out) hb); have n2_ := Aside0.mk (blk_below (g := gb357) (o := .cells #[.int .i64 t353, .int .i64 t354] 36 (0, 0)) (by (with_reducible repeat first | apply blk_drewN | apply blk_drew | apply blk_alloc); exact BK357.out) hb); have n3_ := Aside0.mk (blk_below (g := gb363) (o := .cells #[.int .i64 t358, .int .i64 t359] 36 (0, 0)) (by (with_reducible repeat first | apply blk_drewN | apply blk_drew | apply blk_alloc); exact BK363.out) hb); have n4_ := Aside0.mk (blk_below (g := gb364) (o := .cells #[.int .i64 t360, .int .i64 t361] 36 (0, 0)) (by (with_reducible repeat first | apply blk_drewN | apply blk_drew | apply blk_alloc); exact BK364.out) hb); have n5_ := Aside0.mk (blk_below (g := gb373) (o := .cells #[.int .i64 t370, .int .i64 t371] 36 (0, 0)) (by (with_reducible repeat first | apply blk_drewN | apply blk_drew | apply blk_alloc); exact BK373.out) hb); have n6_ := Aside0.mk (below_step (by repeat (first | (with_reducible first | exact HB.out | apply below_alloc | apply pw_below_drewN | apply below_drew1 | refine below_set ?_ GE356.out | refine below_set ?_ GE357.out | refine below_set ?_ GE363.out | refine below_set ?_ GE364.out | refine below_set ?_ GE373.out) | exact HB.out)) hb); have n7_ := Aside0.mk (hbox); have n8_ := Aside0.mk ((by rw [hg]; exact (below_size (by repeat (first | (with_reducible first | exact HB.out | apply below_alloc | apply pw_below_drewN | apply below_drew1 | refine below_set ?_ GE356.out | refine below_set ?_ GE357.out | refine below_set ?_ GE363.out | refine below_set ?_ GE364.out | refine below_set ?_ GE373.out) | exact HB.out))) : w.heap.size ≤ gb377)); have n9_ := Aside0.mk ((by rw [hg]; exact (below_size (by repeat (first | (with_reducible first | exact HB.out | apply below_alloc | apply pw_below_drewN | apply below_drew1 | refine below_set ?_ GE356.out | refine below_set ?_ GE357.out | refine below_set ?_ GE363.out | refine below_set ?_ GE364.out | refine below_set ?_ GE373.out) | exact HB.out))) : w.heap.size ≤ gb377)); have n10_ := Aside0.mk ((by rw [hg]; exact Nat.ne_of_lt (blk_lt (g := gb356) (o := .cells #[.int .i64 t351, .int .i64 t352] 36 (0, 0)) (by (with_reducible repeat first | apply blk_drewN | apply blk_drew | apply blk_alloc); exact BK356.out)) : gb356 ≠ gb377)); have n11_ := Aside0.mk ((by rw [hg]; exact Nat.ne_of_gt (blk_lt (g := gb356) (o := .cells #[.int .i64 t351, .int .i64 t352] 36 (0, 0)) (by (with_reducible repeat first | apply blk_drewN | apply blk_drew | apply blk_alloc); exact BK356.out)) : gb377 ≠ gb356)); have n12_ := Aside0.mk ((by rw [hg]; exact Nat.ne_of_lt (blk_lt (g := gb357) (o := .cells #[.int .i64 t353, .int .i64 t354] 36 (0, 0)) (by (with_reducible repeat first | apply blk_drewN | apply blk_drew | apply blk_alloc); exact BK357.out)) : gb357 ≠ gb377)); have n13_ := Aside0.mk ((by rw [hg]; exact Nat.ne_of_gt (blk_lt (g := gb357) (o := .cells #[.int .i64 t353, .int .i64 t354] 36 (0, 0)) (by (with_reducible repeat first | apply blk_drewN | apply blk_drew | apply blk_alloc); exact BK357.out)) : gb377 ≠ gb357)); have n14_ := Aside0.mk ((by rw [hg]; exact Nat.ne_of_lt (blk_lt (g := gb363) (o := .cells #[.int .i64 t358, .int .i64 t359] 36 (0, 0)) (by (with_reducible repeat first | apply blk_drewN | apply blk_drew | apply blk_alloc); exact BK363.out)) : gb363 ≠ gb377)); have n15_ := Aside0.mk ((by rw [hg]; exact Nat.ne_of_gt (blk_lt (g := gb363) (o := .cells #[.int .i64 t358, .int .i64 t359] 36 (0, 0)) (by (with_reducible repeat first | apply blk_drewN | apply blk_drew | apply blk_alloc); exact BK363.out)) : gb377 ≠ gb363)); have n16_ := Aside0.mk ((by rw [hg]; exact Nat.ne_of_lt (blk_lt (g := gb364) (o := .cells #[.int .i64 t360, .int .i64 t361] 36 (0, 0)) (by (with_reducible repeat first | apply blk_drewN | apply blk_drew | apply blk_alloc); exact BK364.out)) : gb364 ≠ gb377)); have n17_ := Aside0.mk ((by rw [hg]; exact Nat.ne_of_gt (blk_lt (g := gb364) (o := .cells #[.int .i64 t360, .int .i64 t361] 36 (0, 0)) (by (with_reducible repeat first | apply blk_drewN | apply blk_drew | apply blk_alloc); exact BK364.out)) : gb377 ≠ gb364)); have n18_ := Aside0.mk ((by rw [hg]; exact Nat.ne_of_lt (blk_lt (g := gb373) (o := .cells #[.int .i64 t370, .int .i64 t371] 36 (0, 0)) (by (with_reducible repeat first | apply blk_drewN | apply blk_drew | apply blk_alloc); exact BK373.out)) : gb373 ≠ gb377)); have n19_ := Aside0.mk ((by rw [hg]; exact Nat.ne_of_gt (blk_lt (g := gb373) (o := .cells #[.int .i64 t370, .int .i64 t371] 36 (0, 0)) (by (with_reducible repeat first | apply blk_drewN | apply blk_drew | apply blk_alloc); exact BK373.out)) : gb377 ≠ gb373)); clear HO_3; clear BK356; clear BK357; clear BK363; clear BK364; clear BK373; clear HB; have HO_3 := n0_; have BK356 := n1_; have BK357 := n2_; have BK363 := n3_; have BK364 := n4_; have BK373 := n5_; have HB := n6_; have BK377 := n7_; have GW377 := n8_; have GE377 := n9_; have NB356_377 := n10_; have NB377_356 := n11_; have NB357_377 := n12_; have NB377_357 := n13_; have NB363_377 := n14_; have NB377_363 := n15_; have NB364_377 := n16_; have NB377_364 := n17_; have NB373_377 := n18_; have NB377_373 := n19_; clear n0_ n1_ n2_ n3_ n4_ n5_ n6_ n7_ n8_ n9_ n10_ n11_ n12_ n13_ n14_ n15_ n16_ n17_ n18_ n19_; clear hb hbox hg; have hnb68 := NB377_356.out; have hnc68 := NB356_377.out; have hnb69 := NB377_357.out; have hnc69 := NB357_377.out; have hnb70 := NB377_363.out; have hnc70 := NB363_377.out; have hnb71 := NB377_364.out; have hnc71 := NB364_377.out; have hnb72 := NB377_373.out; have hnc72 := NB373_377.out; have hcz73_0 : w67.cell? ⟨gb377, 0, none⟩ = some (.int .i64 0) := (blk_cell BK377.out 0).trans rfl; have hcz73_1 : w67.cell? ⟨gb377, 1, none⟩ = some (.int .i64 0) := (blk_cell BK377.out 1).trans rfl; have hfz73_0 := blk_frozen BK377.out 0; have hfz73_1 := blk_frozen BK377.out 1))
           (try simp only [Act.put, List.setIfInBounds_toArray, List.set_cons_zero, List.set_cons_succ])
           go_cut [156] (fun v156 wc => ∃ (kq : Nat) (x156_57 : Bool), v156 = .bool x156_57 ∧ Aside0 (laws_FnCentres.j3 kq l0 t342 t343 t344 t347 t348 t355 t365 t366 t372 x156_57 t351 t352 t353 t354 t370 t371 = some r) ∧ Aside0 (kq ≤ kj48) ∧ Aside0 (Kd.R k33 33 wc w.heap.size (fun _ => True) (.slice Ao9 t342.length co9) t342) ∧ Aside0 (wc.heap[gb356]? = some (.cells #[.int .i64 t351, .int .i64 t352] 36 (0, 0))) ∧ Aside0 (wc.heap[gb357]? = some (.cells #[.int .i64 t353, .int .i64 t354] 36 (0, 0))) ∧ Aside0 (wc.heap[gb363]? = some (.cells #[.int .i64 t358, .int .i64 t359] 36 (0, 0))) ∧ Aside0 (wc.heap[gb364]? = some (.cells #[.int .i64 t360, .int .i64 t361] 36 (0, 0))) ∧ Aside0 (wc.heap[gb373]? = some (.cells #[.int .i64 t370, .int .i64 t371] 36 (0, 0))) ∧ Aside0 (wc.heap[gb377]? = some (.cells #[.int .i64 t374, .int .i64 t375] 36 (0, 0))) ∧ Aside0 (Below w.heap.size w wc))
           case first =>
            have H := HC58.out
            clear HC58
            by_cases c74 : t370 = t374
            rotate_left
            ·rw [if_neg c74] at H
             have c74b0 : (t370 == t374) = false := beq_eq_false_iff_ne.mpr c74
             have c74b1 : (t370 != t374) = true := bne_iff_ne.mpr c74
             (first | rw [c74b0] | (simp only [i64_w, i32_w]; rw [c74b0]) | skip)
             exact (laws_FnCentres.j3_bad _ H hr).elim
            rw [if_pos c74] at H
            have c74b0 : (t370 == t374) = true := beq_iff_eq.mpr c74
            have c74b1 : (t370 != t374) = false := bne_eq_false_iff_eq.mpr c74
            clear c74
            (first | rw [c74b0] | (simp only [i64_w, i32_w]; rw [c74b0]) | skip)
            by_cases c75 : t371 = t375
            rotate_left
            ·rw [if_neg c75] at H
             have c75b0 : (t371 == t375) = false := beq_eq_false_iff_ne.mpr c75
             have c75b1 : (t371 != t375) = true := bne_iff_ne.mpr c75
             exact (laws_FnCentres.j3_bad _ H hr).elim
            rw [if_pos c75] at H
            have c75b0 : (t371 == t375) = true := beq_iff_eq.mpr c75
            have c75b1 : (t371 != t375) = false := bne_eq_false_iff_eq.mpr c75
            clear c75
            by_cases c76 : (t372 != t376) = true
            ·rw [if_pos c76] at H
             have c76b0 : (t372 != t376) = true := c76
             (try (have c76b1 : decide (t372 = t376) = false := by simpa using c76))
             (try (have c76b2 : (t372 == t376) = false := by simpa using c76))
             (try (have c76b3 : ¬ (t372 = t376) := by simpa using c76))
             clear c76
             exact (laws_FnCentres.j3_bad _ H hr).elim
            rw [if_neg c76] at H
            have c76b0 : (t372 != t376) = false := by simpa using c76
            (try (have c76b1 : decide (t372 = t376) = true := by simpa using c76))
            (try (have c76b2 : (t372 == t376) = true := by simpa using c76))
            clear c76
            by_cases c77 : t366 = true
            ·subst c77
             rw [if_pos rfl] at H
             as_aux_lemma =>
              have H' := Aside0.mk H
              clear H; have hnb78 := NB373_356.out; have hnc78 := NB356_373.out; have hnb79 := NB373_357.out; have hnc79 := NB357_373.out; have hnb80 := NB373_363.out; have hnc80 := NB363_373.out; have hnb81 := NB373_364.out; have hnc81 := NB364_373.out; have hnb82 := NB373_377.out; have hnc82 := NB377_373.out
              have hcz83_0 : w67.cell? ⟨gb373, 0, none⟩ = some (.int .i64 t370) := (blk_cell BK373.out 0).trans rfl
              have hcz83_1 : w67.cell? ⟨gb373, 1, none⟩ = some (.int .i64 t371) := (blk_cell BK373.out 1).trans rfl
              have hfz83_0 := blk_frozen BK373.out 0
              have hfz83_1 := blk_frozen BK373.out 1
              have hnb84 := NB377_356.out; have hnc84 := NB356_377.out; have hnb85 := NB377_357.out; have hnc85 := NB357_377.out; have hnb86 := NB377_363.out; have hnc86 := NB363_377.out; have hnb87 := NB377_364.out; have hnc87 := NB364_377.out
              have hcz88_0 : w67.cell? ⟨gb377, 0, none⟩ = some (.int .i64 0) := (blk_cell BK377.out 0).trans rfl
              have hcz88_1 : w67.cell? ⟨gb377, 1, none⟩ = some (.int .i64 0) := (blk_cell BK377.out 1).trans rfl
              have hfz88_0 := blk_frozen BK377.out 0
              have hfz88_1 := blk_frozen BK377.out 1
              go_wp2
              go_meet
              case rel => exact ⟨_, ((t372 != (decide ((t342.length : Int) > 0)))), (by first | rfl | (simp; done) | (simp [*]; done) | (simp [bne]; done)), H', ⟨by have := HJ6.out; have := HJ14.out; have := HJ48.out; first | omega | exact Nat.le_refl _⟩, ⟨by (with_reducible repeat (first | apply Kd.R_alloc | apply Kd.R_drewN | apply Kd.R_drew)); exact Kd.R_mono (Kd.R_far (p := ⟨gb377, 1, none⟩) (Kd.R_far (p := ⟨gb377, 0, none⟩) (Kd.R_types HO_3.out BK377.out (by decide)) (fun _ hk => hk.2) (.int .i64 t374)) (fun _ hk => hk.2) (.int .i64 t375)) (fun _ hk => trivial)⟩, ⟨by (with_reducible repeat first | apply blk_drewN | apply blk_drew | apply blk_alloc); refine blk_far ?_ NB356_377.out _; (with_reducible repeat first | apply blk_drewN | apply blk_drew | apply blk_alloc); refine blk_far ?_ NB356_377.out _; (with_reducible repeat first | apply blk_drewN | apply blk_drew | apply blk_alloc); exact BK356.out⟩, ⟨by (with_reducible repeat first | apply blk_drewN | apply blk_drew | apply blk_alloc); refine blk_far ?_ NB357_377.out _; (with_reducible repeat first | apply blk_drewN | apply blk_drew | apply blk_alloc); refine blk_far ?_ NB357_377.out _; (with_reducible repeat first | apply blk_drewN | apply blk_drew | apply blk_alloc); exact BK357.out⟩, ⟨by (with_reducible repeat first | apply blk_drewN | apply blk_drew | apply blk_alloc); refine blk_far ?_ NB363_377.out _; (with_reducible repeat first | apply blk_drewN | apply blk_drew | apply blk_alloc); refine blk_far ?_ NB363_377.out _; (with_reducible repeat first | apply blk_drewN | apply blk_drew | apply blk_alloc); exact BK363.out⟩, ⟨by (with_reducible repeat first | apply blk_drewN | apply blk_drew | apply blk_alloc); refine blk_far ?_ NB364_377.out _; (with_reducible repeat first | apply blk_drewN | apply blk_drew | apply blk_alloc); refine blk_far ?_ NB364_377.out _; (with_reducible repeat first | apply blk_drewN | apply blk_drew | apply blk_alloc); exact BK364.out⟩, ⟨by (with_reducible repeat first | apply blk_drewN | apply blk_drew | apply blk_alloc); refine blk_far ?_ NB373_377.out _; (with_reducible repeat first | apply blk_drewN | apply blk_drew | apply blk_alloc); refine blk_far ?_ NB373_377.out _; (with_reducible repeat first | apply blk_drewN | apply blk_drew | apply blk_alloc); exact BK373.out⟩, ⟨by (with_reducible repeat first | apply blk_drewN | apply blk_drew | apply blk_alloc); refine blk_put (cs := #[.int .i64 t374, .int .i64 0]) ?_ 1 _ rfl; (with_reducible repeat first | apply blk_drewN | apply blk_drew | apply blk_alloc); refine blk_put (cs := #[.int .i64 0, .int .i64 0]) ?_ 0 _ rfl; (with_reducible repeat first | apply blk_drewN | apply blk_drew | apply blk_alloc); exact BK377.out⟩, ⟨by repeat (first | (with_reducible first | exact HB.out | apply below_alloc | apply pw_below_drewN | apply below_drew1 | refine below_set ?_ GE356.out | refine below_set ?_ GE357.out | refine below_set ?_ GE363.out | refine below_set ?_ GE364.out | refine below_set ?_ GE373.out | refine below_set ?_ GE377.out) | exact HB.out)⟩⟩
            replace c77 := Bool.eq_false_iff.mpr c77
            subst c77
            rw [if_neg (show ¬ (false = true) by decide)] at H
            as_aux_lemma =>
             have H' := Aside0.mk H
             clear H; have hnb89 := NB373_356.out; have hnc89 := NB356_373.out; have hnb90 := NB373_357.out; have hnc90 := NB357_373.out; have hnb91 := NB373_363.out; have hnc91 := NB363_373.out; have hnb92 := NB373_364.out; have hnc92 := NB364_373.out; have hnb93 := NB373_377.out; have hnc93 := NB377_373.out
             have hcz94_0 : w67.cell? ⟨gb373, 0, none⟩ = some (.int .i64 t370) := (blk_cell BK373.out 0).trans rfl
             have hcz94_1 : w67.cell? ⟨gb373, 1, none⟩ = some (.int .i64 t371) := (blk_cell BK373.out 1).trans rfl
             have hfz94_0 := blk_frozen BK373.out 0
             have hfz94_1 := blk_frozen BK373.out 1
             have hnb95 := NB377_356.out; have hnc95 := NB356_377.out; have hnb96 := NB377_357.out; have hnc96 := NB357_377.out; have hnb97 := NB377_363.out; have hnc97 := NB363_377.out; have hnb98 := NB377_364.out; have hnc98 := NB364_377.out
             have hcz99_0 : w67.cell? ⟨gb377, 0, none⟩ = some (.int .i64 0) := (blk_cell BK377.out 0).trans rfl
             have hcz99_1 : w67.cell? ⟨gb377, 1, none⟩ = some (.int .i64 0) := (blk_cell BK377.out 1).trans rfl
             have hfz99_0 := blk_frozen BK377.out 0
             have hfz99_1 := blk_frozen BK377.out 1
             go_wp2
             go_meet
             case rel => exact ⟨_, ((t372 != false)), (by first | rfl | (simp; done) | (simp [*]; done) | (simp [bne]; done)), H', ⟨by have := HJ6.out; have := HJ14.out; have := HJ48.out; first | omega | exact Nat.le_refl _⟩, ⟨by (with_reducible repeat (first | apply Kd.R_alloc | apply Kd.R_drewN | apply Kd.R_drew)); exact Kd.R_mono (Kd.R_far (p := ⟨gb377, 1, none⟩) (Kd.R_far (p := ⟨gb377, 0, none⟩) (Kd.R_types HO_3.out BK377.out (by decide)) (fun _ hk => hk.2) (.int .i64 t374)) (fun _ hk => hk.2) (.int .i64 t375)) (fun _ hk => trivial)⟩, ⟨by (with_reducible repeat first | apply blk_drewN | apply blk_drew | apply blk_alloc); refine blk_far ?_ NB356_377.out _; (with_reducible repeat first | apply blk_drewN | apply blk_drew | apply blk_alloc); refine blk_far ?_ NB356_377.out _; (with_reducible repeat first | apply blk_drewN | apply blk_drew | apply blk_alloc); exact BK356.out⟩, ⟨by (with_reducible repeat first | apply blk_drewN | apply blk_drew | apply blk_alloc); refine blk_far ?_ NB357_377.out _; (with_reducible repeat first | apply blk_drewN | apply blk_drew | apply blk_alloc); refine blk_far ?_ NB357_377.out _; (with_reducible repeat first | apply blk_drewN | apply blk_drew | apply blk_alloc); exact BK357.out⟩, ⟨by (with_reducible repeat first | apply blk_drewN | apply blk_drew | apply blk_alloc); refine blk_far ?_ NB363_377.out _; (with_reducible repeat first | apply blk_drewN | apply blk_drew | apply blk_alloc); refine blk_far ?_ NB363_377.out _; (with_reducible repeat first | apply blk_drewN | apply blk_drew | apply blk_alloc); exact BK363.out⟩, ⟨by (with_reducible repeat first | apply blk_drewN | apply blk_drew | apply blk_alloc); refine blk_far ?_ NB364_377.out _; (with_reducible repeat first | apply blk_drewN | apply blk_drew | apply blk_alloc); refine blk_far ?_ NB364_377.out _; (with_reducible repeat first | apply blk_drewN | apply blk_drew | apply blk_alloc); exact BK364.out⟩, ⟨by (with_reducible repeat first | apply blk_drewN | apply blk_drew | apply blk_alloc); refine blk_far ?_ NB373_377.out _; (with_reducible repeat first | apply blk_drewN | apply blk_drew | apply blk_alloc); refine blk_far ?_ NB373_377.out _; (with_reducible repeat first | apply blk_drewN | apply blk_drew | apply blk_alloc); exact BK373.out⟩, ⟨by (with_reducible repeat first | apply blk_drewN | apply blk_drew | apply blk_alloc); refine blk_put (cs := #[.int .i64 t374, .int .i64 0]) ?_ 1 _ rfl; (with_reducible repeat first | apply blk_drewN | apply blk_drew | apply blk_alloc); refine blk_put (cs := #[.int .i64 0, .int .i64 0]) ?_ 0 _ rfl; (with_reducible repeat first | apply blk_drewN | apply blk_drew | apply blk_alloc); exact BK377.out⟩, ⟨by repeat (first | (with_reducible first | exact HB.out | apply below_alloc | apply pw_below_drewN | apply below_drew1 | refine below_set ?_ GE356.out | refine below_set ?_ GE357.out | refine below_set ?_ GE363.out | refine below_set ?_ GE364.out | refine below_set ?_ GE373.out | refine below_set ?_ GE377.out) | exact HB.out)⟩⟩
           case rest =>
            clear HC58
            obtain ⟨kq, x156_57, rfl, HA, HJ57, HO_3, BK356, BK357, BK363, BK364, BK373, BK377, HB⟩ := hcut
            cases kq with
            | zero => exact absurd HA.out (by simp [laws_FnCentres.j3])
            | succ kj57 =>
             have H := HA.out
             clear HA
             simp only [laws_FnCentres.j3] at H
             by_cases c100 : x156_57 = true
             ·subst c100
              rw [if_pos rfl] at H
              obtain rfl := Option.some.inj H
              cases hr
             replace c100 := Bool.eq_false_iff.mpr c100
             subst c100
             rw [if_neg (show ¬ (false = true) by decide)] at H
             replace H := Option.bind_eq_some_iff.mp H
             obtain ⟨⟨t378, t379⟩, A1010, H⟩ := H
             try dsimp only at H
             have A101 := Aside0.mk A1010
             clear A1010
             replace H := Option.bind_eq_some_iff.mp H
             obtain ⟨⟨t382, t383⟩, A1020, H⟩ := H
             try dsimp only at H
             have A102 := Aside0.mk A1020
             clear A1020
             have HC103 := Aside0.mk H
             clear H
             as_aux_lemma =>
              go_upto_region 22 with (first | ((with_reducible refine gate_callee (f := 24) rfl ?_); refine goesL_ (some 159) rfl rfl Try.func24 (by kernel_rfl) rfl #[.slice Ao9 t342.length co9] rfl (by (try simp only [List.map_toArray, List.map_cons, List.map_nil]); first | done | rfl | (simp only [List.length_drop, List.length_take]; rfl)) ?_; (with_reducible refine (impl_MirrorRow.calls kj57 _ _ t342 t378 t379 _ (Sq.r HO_3) (Sq.n HO_3) A101.out).mono ?_); rintro e w104 ⟨v380, rfl, ho0, hb⟩; refine ⟨_, rfl, ?_⟩; have n0_ := Sq.E HO_3 ho0 hb; have n1_ := Aside0.mk (Kd.R_lower (Sq.N ho0 HO_3) (below_size (by repeat (first | (with_reducible first | exact HB.out | apply below_alloc | apply pw_below_drewN | apply below_drew1 | refine below_set ?_ GE356.out | refine below_set ?_ GE357.out | refine below_set ?_ GE363.out | refine below_set ?_ GE364.out | refine below_set ?_ GE373.out | refine below_set ?_ GE377.out) | exact HB.out)))); have n2_ := Aside0.mk (blk_below (g := gb356) (o := .cells #[.int .i64 t351, .int .i64 t352] 36 (0, 0)) (by (with_reducible repeat first | apply blk_drewN | apply blk_drew | apply blk_alloc); exact BK356.out) hb); have n3_ := Aside0.mk (blk_below (g := gb357) (o := .cells #[.int .i64 t353, .int .i64 t354] 36 (0, 0)) (by (with_reducible repeat first | apply blk_drewN | apply blk_drew | apply blk_alloc); exact BK357.out) hb); have n4_ := Aside0.mk (blk_below (g := gb363) (o := .cells #[.int .i64 t358, .int .i64 t359] 36 (0, 0)) (by (with_reducible repeat first | apply blk_drewN | apply blk_drew | apply blk_alloc); exact BK363.out) hb); have n5_ := Aside0.mk (blk_below (g := gb364) (o := .cells #[.int .i64 t360, .int .i64 t361] 36 (0, 0)) (by (with_reducible repeat first | apply blk_drewN | apply blk_drew | apply blk_alloc); exact BK364.out) hb); have n6_ := Aside0.mk (blk_below (g := gb373) (o := .cells #[.int .i64 t370, .int .i64 t371] 36 (0, 0)) (by (with_reducible repeat first | apply blk_drewN | apply blk_drew | apply blk_alloc); exact BK373.out) hb); have n7_ := Aside0.mk (blk_below (g := gb377) (o := .cells #[.int .i64 t374, .int .i64 t375] 36 (0, 0)) (by (with_reducible repeat first | apply blk_drewN | apply blk_drew | apply blk_alloc); exact BK377.out) hb); have n8_ := Aside0.mk (below_step (by repeat (first | (with_reducible first | exact HB.out | apply below_alloc | apply pw_below_drewN | apply below_drew1 | refine below_set ?_ GE356.out | refine below_set ?_ GE357.out | refine below_set ?_ GE363.out | refine below_set ?_ GE364.out | refine below_set ?_ GE373.out | refine below_set ?_ GE377.out) | exact HB.out)) hb); clear HO_3; clear BK356; clear BK357; clear BK363; clear BK364; clear BK373; clear BK377; clear HB; have HO_3 := n0_; have HO381 := n1_; have BK356 := n2_; have BK357 := n3_; have BK363 := n4_; have BK364 := n5_; have BK373 := n6_; have BK377 := n7_; have HB := n8_; clear n0_ n1_ n2_ n3_ n4_ n5_ n6_ n7_ n8_; (try clear hb); (try clear hb2); (try clear hk); (try clear hi); (try clear ho0)) | ((with_reducible refine gate_callee (f := 25) rfl ?_); refine goesL_ (some 164) rfl rfl Try.func25 (by kernel_rfl) rfl #[.slice Ao9 t342.length co9] rfl (by (try simp only [List.map_toArray, List.map_cons, List.map_nil]); first | done | rfl | (simp only [List.length_drop, List.length_take]; rfl)) ?_; (with_reducible refine (spec_MirrorRow.calls kj57 _ _ t342 t382 t383 _ (Sq.r HO_3) (Sq.n HO_3) A102.out).mono ?_); rintro e w105 ⟨v384, rfl, ho0, hb⟩; refine ⟨_, rfl, ?_⟩; have n0_ := Sq.E HO_3 ho0 hb; have n1_ := Sq.E HO381 ho0 hb; have n2_ := Aside0.mk (Kd.R_lower (Sq.N (Sq.N ho0 HO_3) HO381) (below_size (by repeat (first | (with_reducible first | exact HB.out | apply below_alloc | apply pw_below_drewN | apply below_drew1 | refine below_set ?_ GE356.out | refine below_set ?_ GE357.out | refine below_set ?_ GE363.out | refine below_set ?_ GE364.out | refine below_set ?_ GE373.out | refine below_set ?_ GE377.out) | exact HB.out)))); have n3_ := Aside0.mk (blk_below (g := gb356) (o := .cells #[.int .i64 t351, .int .i64 t352] 36 (0, 0)) (by (with_reducible repeat first | apply blk_drewN | apply blk_drew | apply blk_alloc); exact BK356.out) hb); have n4_ := Aside0.mk (blk_below (g := gb357) (o := .cells #[.int .i64 t353, .int .i64 t354] 36 (0, 0)) (by (with_reducible repeat first | apply blk_drewN | apply blk_drew | apply blk_alloc); exact BK357.out) hb); have n5_ := Aside0.mk (blk_below (g := gb363) (o := .cells #[.int .i64 t358, .int .i64 t359] 36 (0, 0)) (by (with_reducible repeat first | apply blk_drewN | apply blk_drew | apply blk_alloc); exact BK363.out) hb); have n6_ := Aside0.mk (blk_below (g := gb364) (o := .cells #[.int .i64 t360, .int .i64 t361] 36 (0, 0)) (by (with_reducible repeat first | apply blk_drewN | apply blk_drew | apply blk_alloc); exact BK364.out) hb); have n7_ := Aside0.mk (blk_below (g := gb373) (o := .cells #[.int .i64 t370, .int .i64 t371] 36 (0, 0)) (by (with_reducible repeat first | apply blk_drewN | apply blk_drew | apply blk_alloc); exact BK373.out) hb); have n8_ := Aside0.mk (blk_below (g := gb377) (o := .cells #[.int .i64 t374, .int .i64 t375] 36 (0, 0)) (by (with_reducible repeat first | apply blk_drewN | apply blk_drew | apply blk_alloc); exact BK377.out) hb); have n9_ := Aside0.mk (below_step (by repeat (first | (with_reducible first | exact HB.out | apply below_alloc | apply pw_below_drewN | apply below_drew1 | refine below_set ?_ GE356.out | refine below_set ?_ GE357.out | refine below_set ?_ GE363.out | refine below_set ?_ GE364.out | refine below_set ?_ GE373.out | refine below_set ?_ GE377.out) | exact HB.out)) hb); clear HO_3; clear HO381; clear BK356; clear BK357; clear BK363; clear BK364; clear BK373; clear BK377; clear HB; have HO_3 := n0_; have HO381 := n1_; have HO385 := n2_; have BK356 := n3_; have BK357 := n4_; have BK363 := n5_; have BK364 := n6_; have BK373 := n7_; have BK377 := n8_; have HB := n9_; clear n0_ n1_ n2_ n3_ n4_ n5_ n6_ n7_ n8_ n9_; (try clear hb); (try clear hb2); (try clear hk); (try clear hi); (try clear ho0)))
              (try simp only [Act.put, List.setIfInBounds_toArray, List.set_cons_zero, List.set_cons_succ])
              go_cut [180] (fun v180 wc => ∃ (kq : Nat) (x180_102 : Bool), v180 = .bool x180_102 ∧ Aside0 (laws_FnCentres.j4 kq l0 t342 t343 t344 t347 t348 t355 t365 t372 t378 x180_102 t351 t352 t353 t354 t370 t371 = some r) ∧ Aside0 (kq ≤ kj57) ∧ Aside0 (Kd.R k33 33 wc w.heap.size (fun k_ => some k_ ≠ (v380 : Value).ownBlock) (.slice Ao9 t342.length co9) t342) ∧ Aside0 (Kd.R k33 33 wc w.heap.size (fun k_ => some k_ ≠ ((.slice Ao9 t342.length co9) : Value).ownBlock) v380 t378) ∧ Aside0 (wc.heap[gb356]? = some (.cells #[.int .i64 t351, .int .i64 t352] 36 (0, 0))) ∧ Aside0 (wc.heap[gb357]? = some (.cells #[.int .i64 t353, .int .i64 t354] 36 (0, 0))) ∧ Aside0 (wc.heap[gb363]? = some (.cells #[.int .i64 t358, .int .i64 t359] 36 (0, 0))) ∧ Aside0 (wc.heap[gb364]? = some (.cells #[.int .i64 t360, .int .i64 t361] 36 (0, 0))) ∧ Aside0 (wc.heap[gb373]? = some (.cells #[.int .i64 t370, .int .i64 t371] 36 (0, 0))) ∧ Aside0 (wc.heap[gb377]? = some (.cells #[.int .i64 t374, .int .i64 t375] 36 (0, 0))) ∧ Aside0 (Below w.heap.size w wc))
              case first =>
               have H := HC103.out
               clear HC103
               by_cases c106 : (t379 != t383) = true
               ·rw [if_pos c106] at H
                have c106b0 : (t379 != t383) = true := c106
                (try (have c106b1 : decide (t379 = t383) = false := by simpa using c106))
                (try (have c106b2 : (t379 == t383) = false := by simpa using c106))
                (try (have c106b3 : ¬ (t379 = t383) := by simpa using c106))
                clear c106
                (first | rw [c106b0] | (simp only [i64_w, i32_w]; rw [c106b0]) | skip)
                exact (laws_FnCentres.j4_bad _ H hr).elim
               rw [if_neg c106] at H
               have c106b0 : (t379 != t383) = false := by simpa using c106
               (try (have c106b1 : decide (t379 = t383) = true := by simpa using c106))
               (try (have c106b2 : (t379 == t383) = true := by simpa using c106))
               clear c106
               (first | rw [c106b0] | (simp only [i64_w, i32_w]; rw [c106b0]) | skip)
               by_cases c107 : (t379 != t366) = true
               ·rw [if_pos c107] at H
                have c107b0 : (t379 != t366) = true := c107
                (try (have c107b1 : decide (t379 = t366) = false := by simpa using c107))
                (try (have c107b2 : (t379 == t366) = false := by simpa using c107))
                (try (have c107b3 : ¬ (t379 = t366) := by simpa using c107))
                clear c107
                exact (laws_FnCentres.j4_bad _ H hr).elim
               rw [if_neg c107] at H
               have c107b0 : (t379 != t366) = false := by simpa using c107
               (try (have c107b1 : decide (t379 = t366) = true := by simpa using c107))
               (try (have c107b2 : (t379 == t366) = true := by simpa using c107))
               clear c107
               replace H := Option.bind_eq_some_iff.mp H
               obtain ⟨t386, A1080, H⟩ := H
               try dsimp only at H
               have A108 := Aside0.mk A1080
               clear A1080
               as_aux_lemma =>
                have H' := Aside0.mk H
                clear H
                obtain ⟨Ao109, co109, rfl⟩ := Kd.R_slice HO381.out
                obtain ⟨Ao110, co110, rfl⟩ := Kd.R_slice HO385.out
                go_wp2_with (first | (go_at_call 26; (with_reducible refine (laws_rRow.calls kj57 _ _ t378 _ _ t382 t386 _ (Sq.r HO381) (Sq.n HO381) (Sq.r HO385) (Sq.n HO385) A108.out).mono ?_); rintro e w' ⟨rfl, ⟨nd, rfl⟩⟩))
                go_meet
                case rel => exact ⟨_, (!t386), (by first | rfl | (simp; done) | (simp [*]; done) | (simp [bne]; done)), H', ⟨by have := HJ6.out; have := HJ14.out; have := HJ48.out; have := HJ57.out; first | omega | exact Nat.le_refl _⟩, ⟨Kd.R_mono (Sq.R HO_3) (fun _ hk => hk.1.2)⟩, ⟨Kd.R_mono (Sq.R HO381) (fun _ hk => hk.1.2)⟩, ⟨by (with_reducible repeat first | apply blk_drewN | apply blk_drew | apply blk_alloc); exact BK356.out⟩, ⟨by (with_reducible repeat first | apply blk_drewN | apply blk_drew | apply blk_alloc); exact BK357.out⟩, ⟨by (with_reducible repeat first | apply blk_drewN | apply blk_drew | apply blk_alloc); exact BK363.out⟩, ⟨by (with_reducible repeat first | apply blk_drewN | apply blk_drew | apply blk_alloc); exact BK364.out⟩, ⟨by (with_reducible repeat first | apply blk_drewN | apply blk_drew | apply blk_alloc); exact BK373.out⟩, ⟨by (with_reducible repeat first | apply blk_drewN | apply blk_drew | apply blk_alloc); exact BK377.out⟩, ⟨by repeat (first | (with_reducible first | exact HB.out | apply below_alloc | apply pw_below_drewN | apply below_drew1 | refine below_set ?_ GE356.out | refine below_set ?_ GE357.out | refine below_set ?_ GE363.out | refine below_set ?_ GE364.out | refine below_set ?_ GE373.out | refine below_set ?_ GE377.out) | exact HB.out)⟩⟩
              case rest =>
               clear HC103
               obtain ⟨kq, x180_102, rfl, HA, HJ102, HO_3, HO_24, BK356, BK357, BK363, BK364, BK373, BK377, HB⟩ := hcut
               cases kq with
               | zero => exact absurd HA.out (by simp [laws_FnCentres.j4])
               | succ kj102 =>
                have H := HA.out
                clear HA
                simp only [laws_FnCentres.j4] at H
                by_cases c111 : x180_102 = true
                ·subst c111
                 rw [if_pos rfl] at H
                 obtain rfl := Option.some.inj H
                 cases hr
                replace c111 := Bool.eq_false_iff.mpr c111
                subst c111
                rw [if_neg (show ¬ (false = true) by decide)] at H
                replace H := Option.bind_eq_some_iff.mp H
                obtain ⟨⟨t387, t388⟩, A1120, H⟩ := H
                try dsimp only at H
                have A112 := Aside0.mk A1120
                clear A1120
                replace H := Option.bind_eq_some_iff.mp H
                obtain ⟨⟨t391, t392⟩, A1130, H⟩ := H
                try dsimp only at H
                have A113 := Aside0.mk A1130
                clear A1130
                replace H := Option.bind_eq_some_iff.mp H
                obtain ⟨⟨t393, t394⟩, A1140, H⟩ := H
                try dsimp only at H
                have A114 := Aside0.mk A1140
                clear A1140
                have HC115 := Aside0.mk H
                clear H
                as_aux_lemma =>
                 go_upto_region 27 with (first | ((with_reducible refine gate_callee (f := 27) rfl ?_); refine goesL_ (some 183) rfl rfl Try.func27 (by kernel_rfl) rfl #[.slice A0 l0.length c0] rfl (by (try simp only [List.map_toArray, List.map_cons, List.map_nil]); first | done | rfl | (simp only [List.length_drop, List.length_take]; rfl)) ?_; (with_reducible refine (spec_DrawMomentAbout.calls kj102 _ _ l0 t387 t388 _ (Sq.C ((Kd.C_below HR0.out HB.out))) HC0.out A112.out).mono ?_); rintro e w116 ⟨v389, rfl, ho0, hb⟩; refine ⟨_, rfl, ?_⟩; have n0_ := Sq.E HO_3 ho0 hb; have n1_ := Sq.E HO_24 ho0 hb; have n2_ := Aside0.mk (Kd.R_lower (Sq.N (Sq.N ho0 HO_3) HO_24) (below_size (by repeat (first | (with_reducible first | exact HB.out | apply below_alloc | apply pw_below_drewN | apply below_drew1 | refine below_set ?_ GE356.out | refine below_set ?_ GE357.out | refine below_set ?_ GE363.out | refine below_set ?_ GE364.out | refine below_set ?_ GE373.out | refine below_set ?_ GE377.out) | exact HB.out)))); have n3_ := Aside0.mk (blk_below (g := gb356) (o := .cells #[.int .i64 t351, .int .i64 t352] 36 (0, 0)) (by (with_reducible repeat first | apply blk_drewN | apply blk_drew | apply blk_alloc); exact BK356.out) hb); have n4_ := Aside0.mk (blk_below (g := gb357) (o := .cells #[.int .i64 t353, .int .i64 t354] 36 (0, 0)) (by (with_reducible repeat first | apply blk_drewN | apply blk_drew | apply blk_alloc); exact BK357.out) hb); have n5_ := Aside0.mk (blk_below (g := gb363) (o := .cells #[.int .i64 t358, .int .i64 t359] 36 (0, 0)) (by (with_reducible repeat first | apply blk_drewN | apply blk_drew | apply blk_alloc); exact BK363.out) hb); have n6_ := Aside0.mk (blk_below (g := gb364) (o := .cells #[.int .i64 t360, .int .i64 t361] 36 (0, 0)) (by (with_reducible repeat first | apply blk_drewN | apply blk_drew | apply blk_alloc); exact BK364.out) hb); have n7_ := Aside0.mk (blk_below (g := gb373) (o := .cells #[.int .i64 t370, .int .i64 t371] 36 (0, 0)) (by (with_reducible repeat first | apply blk_drewN | apply blk_drew | apply blk_alloc); exact BK373.out) hb); have n8_ := Aside0.mk (blk_below (g := gb377) (o := .cells #[.int .i64 t374, .int .i64 t375] 36 (0, 0)) (by (with_reducible repeat first | apply blk_drewN | apply blk_drew | apply blk_alloc); exact BK377.out) hb); have n9_ := Aside0.mk (below_step (by repeat (first | (with_reducible first | exact HB.out | apply below_alloc | apply pw_below_drewN | apply below_drew1 | refine below_set ?_ GE356.out | refine below_set ?_ GE357.out | refine below_set ?_ GE363.out | refine below_set ?_ GE364.out | refine below_set ?_ GE373.out | refine below_set ?_ GE377.out) | exact HB.out)) hb); clear HO_3; clear HO_24; clear BK356; clear BK357; clear BK363; clear BK364; clear BK373; clear BK377; clear HB; have HO_3 := n0_; have HO_24 := n1_; have HO390 := n2_; have BK356 := n3_; have BK357 := n4_; have BK363 := n5_; have BK364 := n6_; have BK373 := n7_; have BK377 := n8_; have HB := n9_; clear n0_ n1_ n2_ n3_ n4_ n5_ n6_ n7_ n8_ n9_; (try clear hb); (try clear hb2); (try clear hk); (try clear hi); (try clear ho0); obtain ⟨Ao117, co117, rfl⟩ := Kd.R_slice HO390.out) | ((with_reducible refine gate_callee (f := 28) rfl ?_); refine goesL_ (some 189) rfl rfl Try.func28 (by kernel_rfl) rfl #[.slice Ao117 t387.length co117, .int .i64 t388] rfl (by (try simp only [List.map_toArray, List.map_cons, List.map_nil]); first | done | rfl | (simp only [List.length_drop, List.length_take]; rfl)) ?_; (with_reducible refine (impl_MomentAbout.calls kj102 _ _ t387 t388 t391 t392 _ (Sq.r HO390) (Sq.n HO390) A113.out).mono ?_); rintro e w118 ⟨rfl, hb⟩; refine ⟨_, rfl, ?_⟩; have n0_ := Sq.T HO_3 hb; have n1_ := Sq.T HO_24 hb; have n2_ := Sq.T HO390 hb; have n3_ := Aside0.mk (blk_below (g := gb356) (o := .cells #[.int .i64 t351, .int .i64 t352] 36 (0, 0)) (by (with_reducible repeat first | apply blk_drewN | apply blk_drew | apply blk_alloc); exact BK356.out) hb); have n4_ := Aside0.mk (blk_below (g := gb357) (o := .cells #[.int .i64 t353, .int .i64 t354] 36 (0, 0)) (by (with_reducible repeat first | apply blk_drewN | apply blk_drew | apply blk_alloc); exact BK357.out) hb); have n5_ := Aside0.mk (blk_below (g := gb363) (o := .cells #[.int .i64 t358, .int .i64 t359] 36 (0, 0)) (by (with_reducible repeat first | apply blk_drewN | apply blk_drew | apply blk_alloc); exact BK363.out) hb); have n6_ := Aside0.mk (blk_below (g := gb364) (o := .cells #[.int .i64 t360, .int .i64 t361] 36 (0, 0)) (by (with_reducible repeat first | apply blk_drewN | apply blk_drew | apply blk_alloc); exact BK364.out) hb); have n7_ := Aside0.mk (blk_below (g := gb373) (o := .cells #[.int .i64 t370, .int .i64 t371] 36 (0, 0)) (by (with_reducible repeat first | apply blk_drewN | apply blk_drew | apply blk_alloc); exact BK373.out) hb); have n8_ := Aside0.mk (blk_below (g := gb377) (o := .cells #[.int .i64 t374, .int .i64 t375] 36 (0, 0)) (by (with_reducible repeat first | apply blk_drewN | apply blk_drew | apply blk_alloc); exact BK377.out) hb); have n9_ := Aside0.mk (below_step (by repeat (first | (with_reducible first | exact HB.out | apply below_alloc | apply pw_below_drewN | apply below_drew1 | refine below_set ?_ GE356.out | refine below_set ?_ GE357.out | refine below_set ?_ GE363.out | refine below_set ?_ GE364.out | refine below_set ?_ GE373.out | refine below_set ?_ GE377.out) | exact HB.out)) hb); clear HO_3; clear HO_24; clear HO390; clear BK356; clear BK357; clear BK363; clear BK364; clear BK373; clear BK377; clear HB; have HO_3 := n0_; have HO_24 := n1_; have HO390 := n2_; have BK356 := n3_; have BK357 := n4_; have BK363 := n5_; have BK364 := n6_; have BK373 := n7_; have BK377 := n8_; have HB := n9_; clear n0_ n1_ n2_ n3_ n4_ n5_ n6_ n7_ n8_ n9_; (try clear hb); (try clear hb2); (try clear hk); (try clear hi)) | ((with_reducible refine gate_callee (f := 29) rfl ?_); refine goesL_ (some 195) rfl rfl Try.func29 (by kernel_rfl) rfl #[.slice Ao117 t387.length co117, .int .i64 t388] rfl (by (try simp only [List.map_toArray, List.map_cons, List.map_nil]); first | done | rfl | (simp only [List.length_drop, List.length_take]; rfl)) ?_; (with_reducible refine (spec_MomentAbout.calls kj102 _ _ t387 t388 t393 t394 _ (Sq.r HO390) (Sq.n HO390) A114.out).mono ?_); rintro e w' ⟨rfl, ⟨nd, rfl⟩⟩; refine ⟨_, rfl, ?_⟩))
                 (try simp only [Act.put, List.setIfInBounds_toArray, List.set_cons_zero, List.set_cons_succ])
                 go_cut [205] (fun v205 wc => ∃ (kq : Nat) (x205_114 : Bool), v205 = .bool x205_114 ∧ Aside0 (laws_FnCentres.j5 kq t342 t343 t344 t347 t348 t355 t365 t372 t378 x205_114 t351 t352 t353 t354 t370 t371 = some r) ∧ Aside0 (kq ≤ kj102) ∧ Aside0 (Kd.R k33 33 wc w.heap.size (fun k_ => some k_ ≠ (v380 : Value).ownBlock) (.slice Ao9 t342.length co9) t342) ∧ Aside0 (Kd.R k33 33 wc w.heap.size (fun k_ => some k_ ≠ ((.slice Ao9 t342.length co9) : Value).ownBlock) v380 t378) ∧ Aside0 (wc.heap[gb356]? = some (.cells #[.int .i64 t351, .int .i64 t352] 36 (0, 0))) ∧ Aside0 (wc.heap[gb357]? = some (.cells #[.int .i64 t353, .int .i64 t354] 36 (0, 0))) ∧ Aside0 (wc.heap[gb363]? = some (.cells #[.int .i64 t358, .int .i64 t359] 36 (0, 0))) ∧ Aside0 (wc.heap[gb364]? = some (.cells #[.int .i64 t360, .int .i64 t361] 36 (0, 0))) ∧ Aside0 (wc.heap[gb373]? = some (.cells #[.int .i64 t370, .int .i64 t371] 36 (0, 0))) ∧ Aside0 (wc.heap[gb377]? = some (.cells #[.int .i64 t374, .int .i64 t375] 36 (0, 0))) ∧ Aside0 (Below w.heap.size w wc))
                 case first =>
                  have H := HC115.out
                  clear HC115
                  by_cases c119 : t391 = t393
                  rotate_left
                  ·rw [if_neg c119] at H
                   have c119b0 : (t391 == t393) = false := beq_eq_false_iff_ne.mpr c119
                   have c119b1 : (t391 != t393) = true := bne_iff_ne.mpr c119
                   (first | rw [c119b0] | (simp only [i64_w, i32_w]; rw [c119b0]) | skip)
                   exact (laws_FnCentres.j5_bad _ H hr).elim
                  rw [if_pos c119] at H
                  have c119b0 : (t391 == t393) = true := beq_iff_eq.mpr c119
                  have c119b1 : (t391 != t393) = false := bne_eq_false_iff_eq.mpr c119
                  clear c119
                  (first | rw [c119b0] | (simp only [i64_w, i32_w]; rw [c119b0]) | skip)
                  as_aux_lemma =>
                   have H' := Aside0.mk H
                   clear H
                   go_wp2
                   go_meet
                   case rel => exact ⟨_, ((t392 != t394)), (by first | rfl | (simp; done) | (simp [*]; done) | (simp [bne]; done)), H', ⟨by have := HJ6.out; have := HJ14.out; have := HJ48.out; have := HJ57.out; have := HJ102.out; first | omega | exact Nat.le_refl _⟩, ⟨Kd.R_mono (Sq.R HO_3) (fun _ hk => hk.1)⟩, ⟨Kd.R_mono (Sq.R HO_24) (fun _ hk => hk.1)⟩, ⟨by (with_reducible repeat first | apply blk_drewN | apply blk_drew | apply blk_alloc); exact BK356.out⟩, ⟨by (with_reducible repeat first | apply blk_drewN | apply blk_drew | apply blk_alloc); exact BK357.out⟩, ⟨by (with_reducible repeat first | apply blk_drewN | apply blk_drew | apply blk_alloc); exact BK363.out⟩, ⟨by (with_reducible repeat first | apply blk_drewN | apply blk_drew | apply blk_alloc); exact BK364.out⟩, ⟨by (with_reducible repeat first | apply blk_drewN | apply blk_drew | apply blk_alloc); exact BK373.out⟩, ⟨by (with_reducible repeat first | apply blk_drewN | apply blk_drew | apply blk_alloc); exact BK377.out⟩, ⟨by repeat (first | (with_reducible first | exact HB.out | apply below_alloc | apply pw_below_drewN | apply below_drew1 | refine below_set ?_ GE356.out | refine below_set ?_ GE357.out | refine below_set ?_ GE363.out | refine below_set ?_ GE364.out | refine below_set ?_ GE373.out | refine below_set ?_ GE377.out) | exact HB.out)⟩⟩
                 case rest =>
                  clear HC115
                  obtain ⟨kq, x205_114, rfl, HA, HJ114, HO_3, HO_24, BK356, BK357, BK363, BK364, BK373, BK377, HB⟩ := hcut
                  cases kq with
                  | zero => exact absurd HA.out (by simp [laws_FnCentres.j5])
                  | succ kj114 =>
                   have H := HA.out
                   clear HA
                   simp only [laws_FnCentres.j5] at H
                   by_cases c120 : x205_114 = true
                   ·subst c120
                    rw [if_pos rfl] at H
                    obtain rfl := Option.some.inj H
                    cases hr
                   replace c120 := Bool.eq_false_iff.mpr c120
                   subst c120
                   rw [if_neg (show ¬ (false = true) by decide)] at H
                   replace H := Option.bind_eq_some_iff.mp H
                   obtain ⟨⟨t395, t396, t397⟩, A1210, H⟩ := H
                   try dsimp only at H
                   have A121 := Aside0.mk A1210
                   clear A1210
                   replace H := Option.bind_eq_some_iff.mp H
                   obtain ⟨⟨t398, t399, t400⟩, A1220, H⟩ := H
                   try dsimp only at H
                   have A122 := Aside0.mk A1220
                   clear A1220
                   have HC123 := Aside0.mk H
                   clear H
                   as_aux_lemma =>
                    go_upto_region 31 with (first | ((with_reducible refine gate_callee (f := 30) rfl ?_); refine goesL_ (some 208) rfl rfl Try.func30 (by kernel_rfl) rfl #[.slice Ao9 t342.length co9] rfl (by (try simp only [List.map_toArray, List.map_cons, List.map_nil]); first | done | rfl | (simp only [List.length_drop, List.length_take]; rfl)) ?_; (with_reducible refine (impl_NarrowBase.calls kj114 _ _ t342 t395 t396 t397 _ (Sq.r HO_3) (Sq.n HO_3) A121.out).mono ?_); rintro e w124 ⟨rfl, hb⟩; refine ⟨_, rfl, ?_⟩; have n0_ := Sq.T HO_3 hb; have n1_ := Sq.T HO_24 hb; have n2_ := Aside0.mk (blk_below (g := gb356) (o := .cells #[.int .i64 t351, .int .i64 t352] 36 (0, 0)) (by (with_reducible repeat first | apply blk_drewN | apply blk_drew | apply blk_alloc); exact BK356.out) hb); have n3_ := Aside0.mk (blk_below (g := gb357) (o := .cells #[.int .i64 t353, .int .i64 t354] 36 (0, 0)) (by (with_reducible repeat first | apply blk_drewN | apply blk_drew | apply blk_alloc); exact BK357.out) hb); have n4_ := Aside0.mk (blk_below (g := gb363) (o := .cells #[.int .i64 t358, .int .i64 t359] 36 (0, 0)) (by (with_reducible repeat first | apply blk_drewN | apply blk_drew | apply blk_alloc); exact BK363.out) hb); have n5_ := Aside0.mk (blk_below (g := gb364) (o := .cells #[.int .i64 t360, .int .i64 t361] 36 (0, 0)) (by (with_reducible repeat first | apply blk_drewN | apply blk_drew | apply blk_alloc); exact BK364.out) hb); have n6_ := Aside0.mk (blk_below (g := gb373) (o := .cells #[.int .i64 t370, .int .i64 t371] 36 (0, 0)) (by (with_reducible repeat first | apply blk_drewN | apply blk_drew | apply blk_alloc); exact BK373.out) hb); have n7_ := Aside0.mk (blk_below (g := gb377) (o := .cells #[.int .i64 t374, .int .i64 t375] 36 (0, 0)) (by (with_reducible repeat first | apply blk_drewN | apply blk_drew | apply blk_alloc); exact BK377.out) hb); have n8_ := Aside0.mk (below_step (by repeat (first | (with_reducible first | exact HB.out | apply below_alloc | apply pw_below_drewN | apply below_drew1 | refine below_set ?_ GE356.out | refine below_set ?_ GE357.out | refine below_set ?_ GE363.out | refine below_set ?_ GE364.out | refine below_set ?_ GE373.out | refine below_set ?_ GE377.out) | exact HB.out)) hb); clear HO_3; clear HO_24; clear BK356; clear BK357; clear BK363; clear BK364; clear BK373; clear BK377; clear HB; have HO_3 := n0_; have HO_24 := n1_; have BK356 := n2_; have BK357 := n3_; have BK363 := n4_; have BK364 := n5_; have BK373 := n6_; have BK377 := n7_; have HB := n8_; clear n0_ n1_ n2_ n3_ n4_ n5_ n6_ n7_ n8_; (try clear hb); (try clear hb2); (try clear hk); (try clear hi)) | ((with_reducible refine gate_callee (f := 31) rfl ?_); refine goesL_ (some 214) rfl rfl Try.func31 (by kernel_rfl) rfl #[.slice Ao9 t342.length co9] rfl (by (try simp only [List.map_toArray, List.map_cons, List.map_nil]); first | done | rfl | (simp only [List.length_drop, List.length_take]; rfl)) ?_; (with_reducible refine (spec_NarrowBase.calls kj114 _ _ t342 t398 t399 t400 _ (Sq.r HO_3) (Sq.n HO_3) A122.out).mono ?_); rintro e w' ⟨rfl, ⟨nd, rfl⟩⟩; refine ⟨_, rfl, ?_⟩))
                    (try simp only [Act.put, List.setIfInBounds_toArray, List.set_cons_zero, List.set_cons_succ])
                    go_cut [235] (fun v235 wc => ∃ (kq : Nat) (x235_122 : Bool), v235 = .bool x235_122 ∧ Aside0 (laws_FnCentres.j6 kq t342 t343 t344 t347 t348 t355 t365 t372 t378 t395 t396 x235_122 t351 t352 t353 t354 t370 t371 = some r) ∧ Aside0 (kq ≤ kj114) ∧ Aside0 (Kd.R k33 33 wc w.heap.size (fun k_ => some k_ ≠ (v380 : Value).ownBlock) (.slice Ao9 t342.length co9) t342) ∧ Aside0 (Kd.R k33 33 wc w.heap.size (fun k_ => some k_ ≠ ((.slice Ao9 t342.length co9) : Value).ownBlock) v380 t378) ∧ Aside0 (wc.heap[gb356]? = some (.cells #[.int .i64 t351, .int .i64 t352] 36 (0, 0))) ∧ Aside0 (wc.heap[gb357]? = some (.cells #[.int .i64 t353, .int .i64 t354] 36 (0, 0))) ∧ Aside0 (wc.heap[gb363]? = some (.cells #[.int .i64 t358, .int .i64 t359] 36 (0, 0))) ∧ Aside0 (wc.heap[gb364]? = some (.cells #[.int .i64 t360, .int .i64 t361] 36 (0, 0))) ∧ Aside0 (wc.heap[gb373]? = some (.cells #[.int .i64 t370, .int .i64 t371] 36 (0, 0))) ∧ Aside0 (wc.heap[gb377]? = some (.cells #[.int .i64 t374, .int .i64 t375] 36 (0, 0))) ∧ Aside0 (Below w.heap.size w wc))
                    case first =>
                     have H := HC123.out
                     clear HC123
                     by_cases c125 : t395 = t398
                     rotate_left
                     ·rw [if_neg c125] at H
                      have c125b0 : (t395 == t398) = false := beq_eq_false_iff_ne.mpr c125
                      have c125b1 : (t395 != t398) = true := bne_iff_ne.mpr c125
                      (first | rw [c125b0] | (simp only [i64_w, i32_w]; rw [c125b0]) | skip)
                      exact (laws_FnCentres.j6_bad _ H hr).elim
                     rw [if_pos c125] at H
                     have c125b0 : (t395 == t398) = true := beq_iff_eq.mpr c125
                     have c125b1 : (t395 != t398) = false := bne_eq_false_iff_eq.mpr c125
                     clear c125
                     (first | rw [c125b0] | (simp only [i64_w, i32_w]; rw [c125b0]) | skip)
                     by_cases c126 : t396 = t399
                     rotate_left
                     ·rw [if_neg c126] at H
                      have c126b0 : (t396 == t399) = false := beq_eq_false_iff_ne.mpr c126
                      have c126b1 : (t396 != t399) = true := bne_iff_ne.mpr c126
                      exact (laws_FnCentres.j6_bad _ H hr).elim
                     rw [if_pos c126] at H
                     have c126b0 : (t396 == t399) = true := beq_iff_eq.mpr c126
                     have c126b1 : (t396 != t399) = false := bne_eq_false_iff_eq.mpr c126
                     clear c126
                     by_cases c127 : (t397 != t400) = true
                     ·rw [if_pos c127] at H
                      have c127b0 : (t397 != t400) = true := c127
                      (try (have c127b1 : decide (t397 = t400) = false := by simpa using c127))
                      (try (have c127b2 : (t397 == t400) = false := by simpa using c127))
                      (try (have c127b3 : ¬ (t397 = t400) := by simpa using c127))
                      clear c127
                      exact (laws_FnCentres.j6_bad _ H hr).elim
                     rw [if_neg c127] at H
                     have c127b0 : (t397 != t400) = false := by simpa using c127
                     (try (have c127b1 : decide (t397 = t400) = true := by simpa using c127))
                     (try (have c127b2 : (t397 == t400) = true := by simpa using c127))
                     clear c127
                     as_aux_lemma =>
                      have H' := Aside0.mk H
                      clear H
                      go_wp2
                      go_meet
                      case rel => exact ⟨_, ((t397 != t372)), (by first | rfl | (simp; done) | (simp [*]; done) | (simp [bne]; done)), H', ⟨by have := HJ6.out; have := HJ14.out; have := HJ48.out; have := HJ57.out; have := HJ102.out; have := HJ114.out; first | omega | exact Nat.le_refl _⟩, ⟨by (with_reducible repeat (first | apply Kd.R_alloc | apply Kd.R_drewN | apply Kd.R_drew)); exact HO_3.out⟩, ⟨by (with_reducible repeat (first | apply Kd.R_alloc | apply Kd.R_drewN | apply Kd.R_drew)); exact HO_24.out⟩, ⟨by (with_reducible repeat first | apply blk_drewN | apply blk_drew | apply blk_alloc); exact BK356.out⟩, ⟨by (with_reducible repeat first | apply blk_drewN | apply blk_drew | apply blk_alloc); exact BK357.out⟩, ⟨by (with_reducible repeat first | apply blk_drewN | apply blk_drew | apply blk_alloc); exact BK363.out⟩, ⟨by (with_reducible repeat first | apply blk_drewN | apply blk_drew | apply blk_alloc); exact BK364.out⟩, ⟨by (with_reducible repeat first | apply blk_drewN | apply blk_drew | apply blk_alloc); exact BK373.out⟩, ⟨by (with_reducible repeat first | apply blk_drewN | apply blk_drew | apply blk_alloc); exact BK377.out⟩, ⟨by repeat (first | (with_reducible first | exact HB.out | apply below_alloc | apply pw_below_drewN | apply below_drew1 | refine below_set ?_ GE356.out | refine below_set ?_ GE357.out | refine below_set ?_ GE363.out | refine below_set ?_ GE364.out | refine below_set ?_ GE373.out | refine below_set ?_ GE377.out) | exact HB.out)⟩⟩
                    case rest =>
                     clear HC123
                     obtain ⟨kq, x235_122, rfl, HA, HJ122, HO_3, HO_24, BK356, BK357, BK363, BK364, BK373, BK377, HB⟩ := hcut
                     cases kq with
                     | zero => exact absurd HA.out (by simp [laws_FnCentres.j6])
                     | succ kj122 =>
                      have H := HA.out
                      clear HA
                      simp only [laws_FnCentres.j6] at H
                      by_cases c128 : x235_122 = true
                      ·subst c128
                       rw [if_pos rfl] at H
                       obtain rfl := Option.some.inj H
                       cases hr
                      replace c128 := Bool.eq_false_iff.mpr c128
                      subst c128
                      rw [if_neg (show ¬ (false = true) by decide)] at H
                      have HC129 := Aside0.mk H
                      clear H
                      as_aux_lemma =>
                       go_upto_region 33 with (fail)
                       go_cut [280] (fun v280 wc => ∃ (kq : Nat) (x280_128 : Bool), v280 = .bool x280_128 ∧ Aside0 (laws_FnCentres.j7 kq t342 t343 t344 t347 t348 t372 t378 t395 t396 x280_128 t370 t371 = some r) ∧ Aside0 (kq ≤ kj122) ∧ Aside0 (Kd.R k33 33 wc w.heap.size (fun k_ => some k_ ≠ (v380 : Value).ownBlock) (.slice Ao9 t342.length co9) t342) ∧ Aside0 (Kd.R k33 33 wc w.heap.size (fun k_ => some k_ ≠ ((.slice Ao9 t342.length co9) : Value).ownBlock) v380 t378) ∧ Aside0 (wc.heap[gb356]? = some (.cells #[.int .i64 t351, .int .i64 t352] 36 (0, 0))) ∧ Aside0 (wc.heap[gb357]? = some (.cells #[.int .i64 t353, .int .i64 t354] 36 (0, 0))) ∧ Aside0 (wc.heap[gb363]? = some (.cells #[.int .i64 t358, .int .i64 t359] 36 (0, 0))) ∧ Aside0 (wc.heap[gb364]? = some (.cells #[.int .i64 t360, .int .i64 t361] 36 (0, 0))) ∧ Aside0 (wc.heap[gb373]? = some (.cells #[.int .i64 t370, .int .i64 t371] 36 (0, 0))) ∧ Aside0 (wc.heap[gb377]? = some (.cells #[.int .i64 t374, .int .i64 t375] 36 (0, 0))) ∧ Aside0 (Below w.heap.size w wc))
                       case first =>
                        have H := HC129.out
                        clear HC129
                        by_cases c130 : t355 = true
                        rotate_left
                        ·replace c130 := Bool.eq_false_iff.mpr c130
                         subst c130
                         rw [if_neg (show ¬ (false = true) by decide)] at H
                         as_aux_lemma =>
                          have H' := Aside0.mk H
                          clear H
                          go_wp2
                          go_meet
                          case rel => exact ⟨_, (false), (by first | rfl | (simp; done) | (simp [*]; done) | (simp [bne]; done)), H', ⟨by have := HJ6.out; have := HJ14.out; have := HJ48.out; have := HJ57.out; have := HJ102.out; have := HJ114.out; have := HJ122.out; first | omega | exact Nat.le_refl _⟩, ⟨by (with_reducible repeat (first | apply Kd.R_alloc | apply Kd.R_drewN | apply Kd.R_drew)); exact HO_3.out⟩, ⟨by (with_reducible repeat (first | apply Kd.R_alloc | apply Kd.R_drewN | apply Kd.R_drew)); exact HO_24.out⟩, ⟨by (with_reducible repeat first | apply blk_drewN | apply blk_drew | apply blk_alloc); exact BK356.out⟩, ⟨by (with_reducible repeat first | apply blk_drewN | apply blk_drew | apply blk_alloc); exact BK357.out⟩, ⟨by (with_reducible repeat first | apply blk_drewN | apply blk_drew | apply blk_alloc); exact BK363.out⟩, ⟨by (with_reducible repeat first | apply blk_drewN | apply blk_drew | apply blk_alloc); exact BK364.out⟩, ⟨by (with_reducible repeat first | apply blk_drewN | apply blk_drew | apply blk_alloc); exact BK373.out⟩, ⟨by (with_reducible repeat first | apply blk_drewN | apply blk_drew | apply blk_alloc); exact BK377.out⟩, ⟨by repeat (first | (with_reducible first | exact HB.out | apply below_alloc | apply pw_below_drewN | apply below_drew1 | refine below_set ?_ GE356.out | refine below_set ?_ GE357.out | refine below_set ?_ GE363.out | refine below_set ?_ GE364.out | refine below_set ?_ GE373.out | refine below_set ?_ GE377.out) | exact HB.out)⟩⟩
                        subst c130
                        rw [if_pos rfl] at H
                        by_cases c131 : t352 < 1
                        ·rw [if_pos c131] at H
                         have c131b0 : decide (t352 < 1) = true := decide_eq_true c131
                         clear c131
                         (first | rw [c131b0] | (simp only [i64_w, i32_w]; rw [c131b0]) | skip)
                         exact (laws_FnCentres.j7_bad _ H hr).elim
                        rw [if_neg c131] at H
                        have c131b0 : decide (t352 < 1) = false := decide_eq_false c131
                        clear c131
                        (first | rw [c131b0] | (simp only [i64_w, i32_w]; rw [c131b0]) | skip)
                        by_cases c132 : t354 < 1
                        ·rw [if_pos c132] at H
                         have c132b0 : decide (t354 < 1) = true := decide_eq_true c132
                         clear c132
                         exact (laws_FnCentres.j7_bad _ H hr).elim
                        rw [if_neg c132] at H
                        have c132b0 : decide (t354 < 1) = false := decide_eq_false c132
                        clear c132
                        by_cases c133 : t351 ≥ 0
                        rotate_left
                        ·rw [if_neg c133] at H
                         have c133b0 : decide (0 ≤ t351) = false := decide_eq_false c133
                         clear c133
                         by_cases c146 : (false != (t347 == 0)) = true
                         ·rw [if_pos c146] at H
                          have c146b0 : (false != (t347 == 0)) = true := c146
                          (try (have c146b1 : decide (false = (t347 == 0)) = false := by simpa using c146))
                          (try (have c146b2 : (false == (t347 == 0)) = false := by simpa using c146))
                          (try (have c146b3 : ¬ (false = (t347 == 0)) := by simpa using c146))
                          clear c146
                          exact (laws_FnCentres.j7_bad _ H hr).elim
                         rw [if_neg c146] at H
                         have c146b0 : (false != (t347 == 0)) = false := by simpa using c146
                         (try (have c146b1 : decide (false = (t347 == 0)) = true := by simpa using c146))
                         (try (have c146b2 : (false == (t347 == 0)) = true := by simpa using c146))
                         clear c146
                         as_aux_lemma =>
                          have H' := Aside0.mk H
                          clear H; have hnb147 := NB356_357.out; have hnc147 := NB357_356.out; have hnb148 := NB356_363.out; have hnc148 := NB363_356.out; have hnb149 := NB356_364.out; have hnc149 := NB364_356.out; have hnb150 := NB356_373.out; have hnc150 := NB373_356.out; have hnb151 := NB356_377.out; have hnc151 := NB377_356.out
                          have hcz152_0 : wc.cell? ⟨gb356, 0, none⟩ = some (.int .i64 t351) := (blk_cell BK356.out 0).trans rfl
                          have hcz152_1 : wc.cell? ⟨gb356, 1, none⟩ = some (.int .i64 t352) := (blk_cell BK356.out 1).trans rfl
                          have hfz152_0 := blk_frozen BK356.out 0
                          have hfz152_1 := blk_frozen BK356.out 1
                          have hnb153 := NB357_363.out; have hnc153 := NB363_357.out; have hnb154 := NB357_364.out; have hnc154 := NB364_357.out; have hnb155 := NB357_373.out; have hnc155 := NB373_357.out; have hnb156 := NB357_377.out; have hnc156 := NB377_357.out
                          have hcz157_0 : wc.cell? ⟨gb357, 0, none⟩ = some (.int .i64 t353) := (blk_cell BK357.out 0).trans rfl
                          have hcz157_1 : wc.cell? ⟨gb357, 1, none⟩ = some (.int .i64 t354) := (blk_cell BK357.out 1).trans rfl
                          have hfz157_0 := blk_frozen BK357.out 0
                          have hfz157_1 := blk_frozen BK357.out 1
                          go_wp2
                          go_meet
                          case rel => exact ⟨_, (((wrap64 ((wrap64 (t351 * t354)) + (wrap64 (t353 * t352)))) != (wrap64 ((wrap64 (t365 * t352)) * t354)))), (by first | rfl | (simp; done) | (simp [*]; done) | (simp [bne]; done)), H', ⟨by have := HJ6.out; have := HJ14.out; have := HJ48.out; have := HJ57.out; have := HJ102.out; have := HJ114.out; have := HJ122.out; first | omega | exact Nat.le_refl _⟩, ⟨by (with_reducible repeat (first | apply Kd.R_alloc | apply Kd.R_drewN | apply Kd.R_drew)); exact HO_3.out⟩, ⟨by (with_reducible repeat (first | apply Kd.R_alloc | apply Kd.R_drewN | apply Kd.R_drew)); exact HO_24.out⟩, ⟨by (with_reducible repeat first | apply blk_drewN | apply blk_drew | apply blk_alloc); exact BK356.out⟩, ⟨by (with_reducible repeat first | apply blk_drewN | apply blk_drew | apply blk_alloc); exact BK357.out⟩, ⟨by (with_reducible repeat first | apply blk_drewN | apply blk_drew | apply blk_alloc); exact BK363.out⟩, ⟨by (with_reducible repeat first | apply blk_drewN | apply blk_drew | apply blk_alloc); exact BK364.out⟩, ⟨by (with_reducible repeat first | apply blk_drewN | apply blk_drew | apply blk_alloc); exact BK373.out⟩, ⟨by (with_reducible repeat first | apply blk_drewN | apply blk_drew | apply blk_alloc); exact BK377.out⟩, ⟨by repeat (first | (with_reducible first | exact HB.out | apply below_alloc | apply pw_below_drewN | apply below_drew1 | refine below_set ?_ GE356.out | refine below_set ?_ GE357.out | refine below_set ?_ GE363.out | refine below_set ?_ GE364.out | refine below_set ?_ GE373.out | refine below_set ?_ GE377.out) | exact HB.out)⟩⟩
                        rw [if_pos c133] at H
                        have c133b0 : decide (0 ≤ t351) = true := decide_eq_true c133
                        clear c133
                        by_cases c134 : ((decide (t353 ≥ 0)) != (t347 == 0)) = true
                        ·rw [if_pos c134] at H
                         have c134b0 : ((decide (t353 ≥ 0)) != (t347 == 0)) = true := c134
                         (try (have c134b1 : decide ((decide (t353 ≥ 0)) = (t347 == 0)) = false := by simpa using c134))
                         (try (have c134b2 : ((decide (t353 ≥ 0)) == (t347 == 0)) = false := by simpa using c134))
                         (try (have c134b3 : ¬ ((decide (t353 ≥ 0)) = (t347 == 0)) := by simpa using c134))
                         clear c134
                         exact (laws_FnCentres.j7_bad _ H hr).elim
                        rw [if_neg c134] at H
                        have c134b0 : ((decide (t353 ≥ 0)) != (t347 == 0)) = false := by simpa using c134
                        (try (have c134b1 : decide ((decide (t353 ≥ 0)) = (t347 == 0)) = true := by simpa using c134))
                        (try (have c134b2 : ((decide (t353 ≥ 0)) == (t347 == 0)) = true := by simpa using c134))
                        clear c134
                        as_aux_lemma =>
                         have H' := Aside0.mk H
                         clear H; have hnb135 := NB356_357.out; have hnc135 := NB357_356.out; have hnb136 := NB356_363.out; have hnc136 := NB363_356.out; have hnb137 := NB356_364.out; have hnc137 := NB364_356.out; have hnb138 := NB356_373.out; have hnc138 := NB373_356.out; have hnb139 := NB356_377.out; have hnc139 := NB377_356.out
                         have hcz140_0 : wc.cell? ⟨gb356, 0, none⟩ = some (.int .i64 t351) := (blk_cell BK356.out 0).trans rfl
                         have hcz140_1 : wc.cell? ⟨gb356, 1, none⟩ = some (.int .i64 t352) := (blk_cell BK356.out 1).trans rfl
                         have hfz140_0 := blk_frozen BK356.out 0
                         have hfz140_1 := blk_frozen BK356.out 1
                         have hnb141 := NB357_363.out; have hnc141 := NB363_357.out; have hnb142 := NB357_364.out; have hnc142 := NB364_357.out; have hnb143 := NB357_373.out; have hnc143 := NB373_357.out; have hnb144 := NB357_377.out; have hnc144 := NB377_357.out
                         have hcz145_0 : wc.cell? ⟨gb357, 0, none⟩ = some (.int .i64 t353) := (blk_cell BK357.out 0).trans rfl
                         have hcz145_1 : wc.cell? ⟨gb357, 1, none⟩ = some (.int .i64 t354) := (blk_cell BK357.out 1).trans rfl
                         have hfz145_0 := blk_frozen BK357.out 0
                         have hfz145_1 := blk_frozen BK357.out 1
                         go_wp2
                         go_meet
                         case rel => exact ⟨_, (((wrap64 ((wrap64 (t351 * t354)) + (wrap64 (t353 * t352)))) != (wrap64 ((wrap64 (t365 * t352)) * t354)))), (by first | rfl | (simp; done) | (simp [*]; done) | (simp [bne]; done)), H', ⟨by have := HJ6.out; have := HJ14.out; have := HJ48.out; have := HJ57.out; have := HJ102.out; have := HJ114.out; have := HJ122.out; first | omega | exact Nat.le_refl _⟩, ⟨by (with_reducible repeat (first | apply Kd.R_alloc | apply Kd.R_drewN | apply Kd.R_drew)); exact HO_3.out⟩, ⟨by (with_reducible repeat (first | apply Kd.R_alloc | apply Kd.R_drewN | apply Kd.R_drew)); exact HO_24.out⟩, ⟨by (with_reducible repeat first | apply blk_drewN | apply blk_drew | apply blk_alloc); exact BK356.out⟩, ⟨by (with_reducible repeat first | apply blk_drewN | apply blk_drew | apply blk_alloc); exact BK357.out⟩, ⟨by (with_reducible repeat first | apply blk_drewN | apply blk_drew | apply blk_alloc); exact BK363.out⟩, ⟨by (with_reducible repeat first | apply blk_drewN | apply blk_drew | apply blk_alloc); exact BK364.out⟩, ⟨by (with_reducible repeat first | apply blk_drewN | apply blk_drew | apply blk_alloc); exact BK373.out⟩, ⟨by (with_reducible repeat first | apply blk_drewN | apply blk_drew | apply blk_alloc); exact BK377.out⟩, ⟨by repeat (first | (with_reducible first | exact HB.out | apply below_alloc | apply pw_below_drewN | apply below_drew1 | refine below_set ?_ GE356.out | refine below_set ?_ GE357.out | refine below_set ?_ GE363.out | refine below_set ?_ GE364.out | refine below_set ?_ GE373.out | refine below_set ?_ GE377.out) | exact HB.out)⟩⟩
                       case rest =>
                        clear HC129
                        obtain ⟨kq, x280_128, rfl, HA, HJ128, HO_3, HO_24, BK356, BK357, BK363, BK364, BK373, BK377, HB⟩ := hcut
                        cases kq with
                        | zero => exact absurd HA.out (by simp [laws_FnCentres.j7])
                        | succ kj128 =>
                         have H := HA.out
                         clear HA
                         simp only [laws_FnCentres.j7] at H
                         by_cases c158 : x280_128 = true
                         ·subst c158
                          rw [if_pos rfl] at H
                          obtain rfl := Option.some.inj H
                          cases hr
                         replace c158 := Bool.eq_false_iff.mpr c158
                         subst c158
                         rw [if_neg (show ¬ (false = true) by decide)] at H
                         by_cases c159 : t372 = true
                         rotate_left
                         ·replace c159 := Bool.eq_false_iff.mpr c159
                          subst c159
                          rw [if_neg (show ¬ (false = true) by decide)] at H
                          by_cases c207 : t348 = true
                          rotate_left
                          ·replace c207 := Bool.eq_false_iff.mpr c207
                           subst c207
                           rw [if_neg (show ¬ (false = true) by decide)] at H
                           as_aux_lemma =>
                            obtain rfl := Option.some.inj H
                            go_wp2
                            go_ret
                            exact ⟨by first | rfl | (simp [errW_none, errW_some] <;> rfl) | (simp [*, errW_none, errW_some] <;> rfl), by repeat (first | (with_reducible first | exact HB.out | apply below_alloc | apply pw_below_drewN | apply below_drew1 | refine below_set ?_ GE356.out | refine below_set ?_ GE357.out | refine below_set ?_ GE363.out | refine below_set ?_ GE364.out | refine below_set ?_ GE373.out | refine below_set ?_ GE377.out) | exact HB.out)⟩

                          subst c207
                          rw [if_pos rfl] at H
                          replace H := Option.bind_eq_some_iff.mp H
                          obtain ⟨⟨t409, t410⟩, A2080, H⟩ := H
                          try dsimp only at H
                          have A208 := Aside0.mk A2080
                          clear A2080
                          by_cases c209 : t410 = true
                          rotate_left
                          ·replace c209 := Bool.eq_false_iff.mpr c209
                           subst c209
                           rw [if_neg (show ¬ (false = true) by decide)] at H
                           obtain rfl := Option.some.inj H
                           cases hr
                          subst c209
                          rw [if_pos rfl] at H
                          as_aux_lemma =>
                           obtain rfl := Option.some.inj H
                           obtain ⟨Ao210, co210, rfl⟩ := Kd.R_slice HO_24.out
                           go_wp2_with (first | ((with_reducible refine gate_callee (f := 14) rfl ?_); refine goesL_ (some 334) rfl rfl Try.func14 (by kernel_rfl) rfl #[.slice Ao210 t378.length co210, .int .i64 (wrap64 (60 - t344)), .int .i64 (wrap64 (60 - t343))] rfl (by (try simp only [List.map_toArray, List.map_cons, List.map_nil]); first | done | rfl | (simp only [List.length_drop, List.length_take]; rfl)) ?_; (with_reducible refine (impl_TipSide.calls kj128 _ _ t378 (wrap64 (60 - t344)) (wrap64 (60 - t343)) t409 true _ ?side1 ?side2 A208.out).mono ?_); (case side1 => exact Sq.r HO_24); (case side2 => exact Sq.n HO_24); rintro e w211 ⟨rfl, hb⟩; refine ⟨_, rfl, ?_⟩; have n0_ := Sq.T HO_3 hb; have n1_ := Sq.T HO_24 hb; have n2_ := Aside0.mk (blk_below (g := gb356) (o := .cells #[.int .i64 t351, .int .i64 t352] 36 (0, 0)) (by (with_reducible repeat first | apply blk_drewN | apply blk_drew | apply blk_alloc); exact BK356.out) hb); have n3_ := Aside0.mk (blk_below (g := gb357) (o := .cells #[.int .i64 t353, .int .i64 t354] 36 (0, 0)) (by (with_reducible repeat first | apply blk_drewN | apply blk_drew | apply blk_alloc); exact BK357.out) hb); have n4_ := Aside0.mk (blk_below (g := gb363) (o := .cells #[.int .i64 t358, .int .i64 t359] 36 (0, 0)) (by (with_reducible repeat first | apply blk_drewN | apply blk_drew | apply blk_alloc); exact BK363.out) hb); have n5_ := Aside0.mk (blk_below (g := gb364) (o := .cells #[.int .i64 t360, .int .i64 t361] 36 (0, 0)) (by (with_reducible repeat first | apply blk_drewN | apply blk_drew | apply blk_alloc); exact BK364.out) hb); have n6_ := Aside0.mk (blk_below (g := gb373) (o := .cells #[.int .i64 t370, .int .i64 t371] 36 (0, 0)) (by (with_reducible repeat first | apply blk_drewN | apply blk_drew | apply blk_alloc); exact BK373.out) hb); have n7_ := Aside0.mk (blk_below (g := gb377) (o := .cells #[.int .i64 t374, .int .i64 t375] 36 (0, 0)) (by (with_reducible repeat first | apply blk_drewN | apply blk_drew | apply blk_alloc); exact BK377.out) hb); have n8_ := Aside0.mk (below_step (by repeat (first | (with_reducible first | exact HB.out | apply below_alloc | apply pw_below_drewN | apply below_drew1 | refine below_set ?_ GE356.out | refine below_set ?_ GE357.out | refine below_set ?_ GE363.out | refine below_set ?_ GE364.out | refine below_set ?_ GE373.out | refine below_set ?_ GE377.out) | exact HB.out)) hb); clear HO_3; clear HO_24; clear BK356; clear BK357; clear BK363; clear BK364; clear BK373; clear BK377; clear HB; have HO_3 := n0_; have HO_24 := n1_; have BK356 := n2_; have BK357 := n3_; have BK363 := n4_; have BK364 := n5_; have BK373 := n6_; have BK377 := n7_; have HB := n8_; clear n0_ n1_ n2_ n3_ n4_ n5_ n6_ n7_ n8_; (try clear hb); (try clear hb2); (try clear hk); (try clear hi)))
                           go_ret
                           exact ⟨by first | rfl | (simp [errW_none, errW_some] <;> rfl) | (simp [*, errW_none, errW_some] <;> rfl), by repeat (first | (with_reducible first | exact HB.out | apply below_alloc | apply pw_below_drewN | apply below_drew1 | refine below_set ?_ GE356.out | refine below_set ?_ GE357.out | refine below_set ?_ GE363.out | refine below_set ?_ GE364.out | refine below_set ?_ GE373.out | refine below_set ?_ GE377.out) | exact HB.out)⟩
                         subst c159
                         rw [if_pos rfl] at H
                         replace H := Option.bind_eq_some_iff.mp H
                         obtain ⟨⟨t401, t402⟩, A1600, H⟩ := H
                         try dsimp only at H
                         have A160 := Aside0.mk A1600
                         clear A1600
                         have HC161 := Aside0.mk H
                         clear H
                         as_aux_lemma =>
                          go_upto_region 37 with (first | ((with_reducible refine gate_callee (f := 14) rfl ?_); refine goesL_ (some 286) rfl rfl Try.func14 (by kernel_rfl) rfl #[.slice Ao9 t342.length co9, .int .i64 t395, .int .i64 t396] rfl (by (try simp only [List.map_toArray, List.map_cons, List.map_nil]); first | done | rfl | (simp only [List.length_drop, List.length_take]; rfl)) ?_; (with_reducible refine (impl_TipSide.calls kj128 _ _ t342 t395 t396 t401 t402 _ (Sq.r HO_3) (Sq.n HO_3) A160.out).mono ?_); rintro e w162 ⟨rfl, hb⟩; refine ⟨_, rfl, ?_⟩; have n0_ := Sq.T HO_3 hb; have n1_ := Sq.T HO_24 hb; have n2_ := Aside0.mk (blk_below (g := gb356) (o := .cells #[.int .i64 t351, .int .i64 t352] 36 (0, 0)) (by (with_reducible repeat first | apply blk_drewN | apply blk_drew | apply blk_alloc); exact BK356.out) hb); have n3_ := Aside0.mk (blk_below (g := gb357) (o := .cells #[.int .i64 t353, .int .i64 t354] 36 (0, 0)) (by (with_reducible repeat first | apply blk_drewN | apply blk_drew | apply blk_alloc); exact BK357.out) hb); have n4_ := Aside0.mk (blk_below (g := gb363) (o := .cells #[.int .i64 t358, .int .i64 t359] 36 (0, 0)) (by (with_reducible repeat first | apply blk_drewN | apply blk_drew | apply blk_alloc); exact BK363.out) hb); have n5_ := Aside0.mk (blk_below (g := gb364) (o := .cells #[.int .i64 t360, .int .i64 t361] 36 (0, 0)) (by (with_reducible repeat first | apply blk_drewN | apply blk_drew | apply blk_alloc); exact BK364.out) hb); have n6_ := Aside0.mk (blk_below (g := gb373) (o := .cells #[.int .i64 t370, .int .i64 t371] 36 (0, 0)) (by (with_reducible repeat first | apply blk_drewN | apply blk_drew | apply blk_alloc); exact BK373.out) hb); have n7_ := Aside0.mk (blk_below (g := gb377) (o := .cells #[.int .i64 t374, .int .i64 t375] 36 (0, 0)) (by (with_reducible repeat first | apply blk_drewN | apply blk_drew | apply blk_alloc); exact BK377.out) hb); have n8_ := Aside0.mk (below_step (by repeat (first | (with_reducible first | exact HB.out | apply below_alloc | apply pw_below_drewN | apply below_drew1 | refine below_set ?_ GE356.out | refine below_set ?_ GE357.out | refine below_set ?_ GE363.out | refine below_set ?_ GE364.out | refine below_set ?_ GE373.out | refine below_set ?_ GE377.out) | exact HB.out)) hb); clear HO_3; clear HO_24; clear BK356; clear BK357; clear BK363; clear BK364; clear BK373; clear BK377; clear HB; have HO_3 := n0_; have HO_24 := n1_; have BK356 := n2_; have BK357 := n3_; have BK363 := n4_; have BK364 := n5_; have BK373 := n6_; have BK377 := n7_; have HB := n8_; clear n0_ n1_ n2_ n3_ n4_ n5_ n6_ n7_ n8_; (try clear hb); (try clear hb2); (try clear hk); (try clear hi)))
                          (try simp only [Act.put, List.setIfInBounds_toArray, List.set_cons_zero, List.set_cons_succ])
                          go_cut [309] (fun v309 wc => ∃ (kq : Nat) (x309_160 : Bool), v309 = .bool x309_160 ∧ Aside0 (laws_FnCentres.j8 kq t342 t343 t344 t347 t348 t378 x309_160 t370 t371 = some r) ∧ Aside0 (kq ≤ kj128) ∧ Aside0 (Kd.R k33 33 wc w.heap.size (fun k_ => some k_ ≠ (v380 : Value).ownBlock) (.slice Ao9 t342.length co9) t342) ∧ Aside0 (Kd.R k33 33 wc w.heap.size (fun k_ => some k_ ≠ ((.slice Ao9 t342.length co9) : Value).ownBlock) v380 t378) ∧ Aside0 (wc.heap[gb356]? = some (.cells #[.int .i64 t351, .int .i64 t352] 36 (0, 0))) ∧ Aside0 (wc.heap[gb357]? = some (.cells #[.int .i64 t353, .int .i64 t354] 36 (0, 0))) ∧ Aside0 (wc.heap[gb363]? = some (.cells #[.int .i64 t358, .int .i64 t359] 36 (0, 0))) ∧ Aside0 (wc.heap[gb364]? = some (.cells #[.int .i64 t360, .int .i64 t361] 36 (0, 0))) ∧ Aside0 (wc.heap[gb373]? = some (.cells #[.int .i64 t370, .int .i64 t371] 36 (0, 0))) ∧ Aside0 (wc.heap[gb377]? = some (.cells #[.int .i64 t374, .int .i64 t375] 36 (0, 0))) ∧ Aside0 (Below w.heap.size w wc))
                          case first =>
                           have H := HC161.out
                           clear HC161
                           by_cases c163 : t402 = true
                           rotate_left
                           ·replace c163 := Bool.eq_false_iff.mpr c163
                            subst c163
                            rw [if_neg (show ¬ (false = true) by decide)] at H
                            exact (laws_FnCentres.j8_bad _ H hr).elim
                           subst c163
                           rw [if_pos rfl] at H
                           by_cases c164 : t401 = 0
                           rotate_left
                           ·rw [if_neg c164] at H
                            have c164b0 : (t401 == 0) = false := beq_eq_false_iff_ne.mpr c164
                            have c164b1 : (t401 != 0) = true := bne_iff_ne.mpr c164
                            (first | rw [c164b0] | (simp only [i64_w, i32_w]; rw [c164b0]) | skip)
                            exact (laws_FnCentres.j8_bad _ H hr).elim
                           rw [if_pos c164] at H
                           have c164b0 : (t401 == 0) = true := beq_iff_eq.mpr c164
                           have c164b1 : (t401 != 0) = false := bne_eq_false_iff_eq.mpr c164
                           clear c164
                           (first | rw [c164b0] | (simp only [i64_w, i32_w]; rw [c164b0]) | skip)
                           by_cases c165 : (wrap64 (t396 - t395)) > 1
                           ·rw [if_pos c165] at H
                            have c165b0 : decide (1 < (wrap64 (t396 - t395))) = true := decide_eq_true c165
                            clear c165
                            exact (laws_FnCentres.j8_bad _ H hr).elim
                           rw [if_neg c165] at H
                           have c165b0 : decide (1 < (wrap64 (t396 - t395))) = false := decide_eq_false c165
                           clear c165
                           as_aux_lemma =>
                            have H' := Aside0.mk H
                            clear H; have hnb166 := NB373_356.out; have hnc166 := NB356_373.out; have hnb167 := NB373_357.out; have hnc167 := NB357_373.out; have hnb168 := NB373_363.out; have hnc168 := NB363_373.out; have hnb169 := NB373_364.out; have hnc169 := NB364_373.out; have hnb170 := NB373_377.out; have hnc170 := NB377_373.out
                            have hcz171_0 : w162.cell? ⟨gb373, 0, none⟩ = some (.int .i64 t370) := (blk_cell BK373.out 0).trans rfl
                            have hcz171_1 : w162.cell? ⟨gb373, 1, none⟩ = some (.int .i64 t371) := (blk_cell BK373.out 1).trans rfl
                            have hfz171_0 := blk_frozen BK373.out 0
                            have hfz171_1 := blk_frozen BK373.out 1
                            go_wp2
                            go_meet
                            case rel => exact ⟨_, (((t371 == 1) != (t395 == t396))), (by first | rfl | (simp; done) | (simp [*]; done) | (simp [bne]; done)), H', ⟨by have := HJ6.out; have := HJ14.out; have := HJ48.out; have := HJ57.out; have := HJ102.out; have := HJ114.out; have := HJ122.out; have := HJ128.out; first | omega | exact Nat.le_refl _⟩, ⟨by (with_reducible repeat (first | apply Kd.R_alloc | apply Kd.R_drewN | apply Kd.R_drew)); exact HO_3.out⟩, ⟨by (with_reducible repeat (first | apply Kd.R_alloc | apply Kd.R_drewN | apply Kd.R_drew)); exact HO_24.out⟩, ⟨by (with_reducible repeat first | apply blk_drewN | apply blk_drew | apply blk_alloc); exact BK356.out⟩, ⟨by (with_reducible repeat first | apply blk_drewN | apply blk_drew | apply blk_alloc); exact BK357.out⟩, ⟨by (with_reducible repeat first | apply blk_drewN | apply blk_drew | apply blk_alloc); exact BK363.out⟩, ⟨by (with_reducible repeat first | apply blk_drewN | apply blk_drew | apply blk_alloc); exact BK364.out⟩, ⟨by (with_reducible repeat first | apply blk_drewN | apply blk_drew | apply blk_alloc); exact BK373.out⟩, ⟨by (with_reducible repeat first | apply blk_drewN | apply blk_drew | apply blk_alloc); exact BK377.out⟩, ⟨by repeat (first | (with_reducible first | exact HB.out | apply below_alloc | apply pw_below_drewN | apply below_drew1 | refine below_set ?_ GE356.out | refine below_set ?_ GE357.out | refine below_set ?_ GE363.out | refine below_set ?_ GE364.out | refine below_set ?_ GE373.out | refine below_set ?_ GE377.out) | exact HB.out)⟩⟩
                          case rest =>
                           clear HC161
                           obtain ⟨kq, x309_160, rfl, HA, HJ160, HO_3, HO_24, BK356, BK357, BK363, BK364, BK373, BK377, HB⟩ := hcut
                           cases kq with
                           | zero => exact absurd HA.out (by simp [laws_FnCentres.j8])
                           | succ kj160 =>
                            have H := HA.out
                            clear HA
                            simp only [laws_FnCentres.j8] at H
                            by_cases c172 : x309_160 = true
                            ·subst c172
                             rw [if_pos rfl] at H
                             obtain rfl := Option.some.inj H
                             cases hr
                            replace c172 := Bool.eq_false_iff.mpr c172
                            subst c172
                            rw [if_neg (show ¬ (false = true) by decide)] at H
                            by_cases c173 : t371 = 1
                            rotate_left
                            ·rw [if_neg c173] at H
                             have c173b0 : (t371 == 1) = false := beq_eq_false_iff_ne.mpr c173
                             have c173b1 : (t371 != 1) = true := bne_iff_ne.mpr c173
                             by_cases c190 : t348 = true
                             rotate_left
                             ·replace c190 := Bool.eq_false_iff.mpr c190
                              subst c190
                              rw [if_neg (show ¬ (false = true) by decide)] at H
                              as_aux_lemma =>
                               obtain rfl := Option.some.inj H
                               have hnb201 := NB373_356.out; have hnc201 := NB356_373.out; have hnb202 := NB373_357.out; have hnc202 := NB357_373.out; have hnb203 := NB373_363.out; have hnc203 := NB363_373.out; have hnb204 := NB373_364.out; have hnc204 := NB364_373.out; have hnb205 := NB373_377.out; have hnc205 := NB377_373.out
                               have hcz206_0 : wc.cell? ⟨gb373, 0, none⟩ = some (.int .i64 t370) := (blk_cell BK373.out 0).trans rfl
                               have hcz206_1 : wc.cell? ⟨gb373, 1, none⟩ = some (.int .i64 t371) := (blk_cell BK373.out 1).trans rfl
                               have hfz206_0 := blk_frozen BK373.out 0
                               have hfz206_1 := blk_frozen BK373.out 1
                               go_wp2
                               go_ret
                               exact ⟨by first | rfl | (simp [errW_none, errW_some] <;> rfl) | (simp [*, errW_none, errW_some] <;> rfl), by repeat (first | (with_reducible first | exact HB.out | apply below_alloc | apply pw_below_drewN | apply below_drew1 | refine below_set ?_ GE356.out | refine below_set ?_ GE357.out | refine below_set ?_ GE363.out | refine below_set ?_ GE364.out | refine below_set ?_ GE373.out | refine below_set ?_ GE377.out) | exact HB.out)⟩
                             subst c190
                             rw [if_pos rfl] at H
                             replace H := Option.bind_eq_some_iff.mp H
                             obtain ⟨⟨t407, t408⟩, A1910, H⟩ := H
                             try dsimp only at H
                             have A191 := Aside0.mk A1910
                             clear A1910
                             by_cases c192 : t408 = true
                             rotate_left
                             ·replace c192 := Bool.eq_false_iff.mpr c192
                              subst c192
                              rw [if_neg (show ¬ (false = true) by decide)] at H
                              obtain rfl := Option.some.inj H
                              cases hr
                             subst c192
                             rw [if_pos rfl] at H
                             as_aux_lemma =>
                              obtain rfl := Option.some.inj H
                              have hnb193 := NB373_356.out; have hnc193 := NB356_373.out; have hnb194 := NB373_357.out; have hnc194 := NB357_373.out; have hnb195 := NB373_363.out; have hnc195 := NB363_373.out; have hnb196 := NB373_364.out; have hnc196 := NB364_373.out; have hnb197 := NB373_377.out; have hnc197 := NB377_373.out
                              have hcz198_0 : wc.cell? ⟨gb373, 0, none⟩ = some (.int .i64 t370) := (blk_cell BK373.out 0).trans rfl
                              have hcz198_1 : wc.cell? ⟨gb373, 1, none⟩ = some (.int .i64 t371) := (blk_cell BK373.out 1).trans rfl
                              have hfz198_0 := blk_frozen BK373.out 0
                              have hfz198_1 := blk_frozen BK373.out 1
                              obtain ⟨Ao199, co199, rfl⟩ := Kd.R_slice HO_24.out
                              go_wp2_with (first | ((with_reducible refine gate_callee (f := 14) rfl ?_); refine goesL_ (some 334) rfl rfl Try.func14 (by kernel_rfl) rfl #[.slice Ao199 t378.length co199, .int .i64 (wrap64 (60 - t344)), .int .i64 (wrap64 (60 - t343))] rfl (by (try simp only [List.map_toArray, List.map_cons, List.map_nil]); first | done | rfl | (simp only [List.length_drop, List.length_take]; rfl)) ?_; (with_reducible refine (impl_TipSide.calls kj160 _ _ t378 (wrap64 (60 - t344)) (wrap64 (60 - t343)) t407 true _ ?side1 ?side2 A191.out).mono ?_); (case side1 => exact Sq.r HO_24); (case side2 => exact Sq.n HO_24); rintro e w200 ⟨rfl, hb⟩; refine ⟨_, rfl, ?_⟩; have n0_ := Sq.T HO_3 hb; have n1_ := Sq.T HO_24 hb; have n2_ := Aside0.mk (blk_below (g := gb356) (o := .cells #[.int .i64 t351, .int .i64 t352] 36 (0, 0)) (by (with_reducible repeat first | apply blk_drewN | apply blk_drew | apply blk_alloc); exact BK356.out) hb); have n3_ := Aside0.mk (blk_below (g := gb357) (o := .cells #[.int .i64 t353, .int .i64 t354] 36 (0, 0)) (by (with_reducible repeat first | apply blk_drewN | apply blk_drew | apply blk_alloc); exact BK357.out) hb); have n4_ := Aside0.mk (blk_below (g := gb363) (o := .cells #[.int .i64 t358, .int .i64 t359] 36 (0, 0)) (by (with_reducible repeat first | apply blk_drewN | apply blk_drew | apply blk_alloc); exact BK363.out) hb); have n5_ := Aside0.mk (blk_below (g := gb364) (o := .cells #[.int .i64 t360, .int .i64 t361] 36 (0, 0)) (by (with_reducible repeat first | apply blk_drewN | apply blk_drew | apply blk_alloc); exact BK364.out) hb); have n6_ := Aside0.mk (blk_below (g := gb373) (o := .cells #[.int .i64 t370, .int .i64 t371] 36 (0, 0)) (by (with_reducible repeat first | apply blk_drewN | apply blk_drew | apply blk_alloc); exact BK373.out) hb); have n7_ := Aside0.mk (blk_below (g := gb377) (o := .cells #[.int .i64 t374, .int .i64 t375] 36 (0, 0)) (by (with_reducible repeat first | apply blk_drewN | apply blk_drew | apply blk_alloc); exact BK377.out) hb); have n8_ := Aside0.mk (below_step (by repeat (first | (with_reducible first | exact HB.out | apply below_alloc | apply pw_below_drewN | apply below_drew1 | refine below_set ?_ GE356.out | refine below_set ?_ GE357.out | refine below_set ?_ GE363.out | refine below_set ?_ GE364.out | refine below_set ?_ GE373.out | refine below_set ?_ GE377.out) | exact HB.out)) hb); clear HO_3; clear HO_24; clear BK356; clear BK357; clear BK363; clear BK364; clear BK373; clear BK377; clear HB; have HO_3 := n0_; have HO_24 := n1_; have BK356 := n2_; have BK357 := n3_; have BK363 := n4_; have BK364 := n5_; have BK373 := n6_; have BK377 := n7_; have HB := n8_; clear n0_ n1_ n2_ n3_ n4_ n5_ n6_ n7_ n8_; (try clear hb); (try clear hb2); (try clear hk); (try clear hi)))
                              go_ret
                              exact ⟨by first | rfl | (simp [errW_none, errW_some] <;> rfl) | (simp [*, errW_none, errW_some] <;> rfl), by repeat (first | (with_reducible first | exact HB.out | apply below_alloc | apply pw_below_drewN | apply below_drew1 | refine below_set ?_ GE356.out | refine below_set ?_ GE357.out | refine below_set ?_ GE363.out | refine below_set ?_ GE364.out | refine below_set ?_ GE373.out | refine below_set ?_ GE377.out) | exact HB.out)⟩
                            rw [if_pos c173] at H
                            have c173b0 : (t371 == 1) = true := beq_iff_eq.mpr c173
                            have c173b1 : (t371 != 1) = false := bne_eq_false_iff_eq.mpr c173
                            clear c173
                            replace H := Option.bind_eq_some_iff.mp H
                            obtain ⟨⟨t403, t404⟩, A1740, H⟩ := H
                            try dsimp only at H
                            have A174 := Aside0.mk A1740
                            clear A1740
                            have HC175 := Aside0.mk H
                            clear H; have hnb176 := NB373_356.out; have hnc176 := NB356_373.out; have hnb177 := NB373_357.out; have hnc177 := NB357_373.out; have hnb178 := NB373_363.out; have hnc178 := NB363_373.out; have hnb179 := NB373_364.out; have hnc179 := NB364_373.out; have hnb180 := NB373_377.out; have hnc180 := NB377_373.out
                            have hcz181_0 : wc.cell? ⟨gb373, 0, none⟩ = some (.int .i64 t370) := (blk_cell BK373.out 0).trans rfl
                            have hcz181_1 : wc.cell? ⟨gb373, 1, none⟩ = some (.int .i64 t371) := (blk_cell BK373.out 1).trans rfl
                            have hfz181_0 := blk_frozen BK373.out 0
                            have hfz181_1 := blk_frozen BK373.out 1
                            as_aux_lemma =>
                             go_upto_region 41 with (first | ((with_reducible refine gate_callee (f := 28) rfl ?_); refine goesL_ (some 317) rfl rfl Try.func28 (by kernel_rfl) rfl #[.slice Ao9 t342.length co9, .int .i64 t370] rfl (by (try simp only [List.map_toArray, List.map_cons, List.map_nil]); first | done | rfl | (simp only [List.length_drop, List.length_take]; rfl)) ?_; (with_reducible refine (impl_MomentAbout.calls kj160 _ _ t342 t370 t403 t404 _ (Sq.r HO_3) (Sq.n HO_3) A174.out).mono ?_); rintro e w182 ⟨rfl, hb⟩; refine ⟨_, rfl, ?_⟩; have n0_ := Sq.T HO_3 hb; have n1_ := Sq.T HO_24 hb; have n2_ := Aside0.mk (blk_below (g := gb356) (o := .cells #[.int .i64 t351, .int .i64 t352] 36 (0, 0)) (by (with_reducible repeat first | apply blk_drewN | apply blk_drew | apply blk_alloc); exact BK356.out) hb); have n3_ := Aside0.mk (blk_below (g := gb357) (o := .cells #[.int .i64 t353, .int .i64 t354] 36 (0, 0)) (by (with_reducible repeat first | apply blk_drewN | apply blk_drew | apply blk_alloc); exact BK357.out) hb); have n4_ := Aside0.mk (blk_below (g := gb363) (o := .cells #[.int .i64 t358, .int .i64 t359] 36 (0, 0)) (by (with_reducible repeat first | apply blk_drewN | apply blk_drew | apply blk_alloc); exact BK363.out) hb); have n5_ := Aside0.mk (blk_below (g := gb364) (o := .cells #[.int .i64 t360, .int .i64 t361] 36 (0, 0)) (by (with_reducible repeat first | apply blk_drewN | apply blk_drew | apply blk_alloc); exact BK364.out) hb); have n6_ := Aside0.mk (blk_below (g := gb373) (o := .cells #[.int .i64 t370, .int .i64 t371] 36 (0, 0)) (by (with_reducible repeat first | apply blk_drewN | apply blk_drew | apply blk_alloc); exact BK373.out) hb); have n7_ := Aside0.mk (blk_below (g := gb377) (o := .cells #[.int .i64 t374, .int .i64 t375] 36 (0, 0)) (by (with_reducible repeat first | apply blk_drewN | apply blk_drew | apply blk_alloc); exact BK377.out) hb); have n8_ := Aside0.mk (below_step (by repeat (first | (with_reducible first | exact HB.out | apply below_alloc | apply pw_below_drewN | apply below_drew1 | refine below_set ?_ GE356.out | refine below_set ?_ GE357.out | refine below_set ?_ GE363.out | refine below_set ?_ GE364.out | refine below_set ?_ GE373.out | refine below_set ?_ GE377.out) | exact HB.out)) hb); clear HO_3; clear HO_24; clear BK356; clear BK357; clear BK363; clear BK364; clear BK373; clear BK377; clear HB; have HO_3 := n0_; have HO_24 := n1_; have BK356 := n2_; have BK357 := n3_; have BK363 := n4_; have BK364 := n5_; have BK373 := n6_; have BK377 := n7_; have HB := n8_; clear n0_ n1_ n2_ n3_ n4_ n5_ n6_ n7_ n8_; (try clear hb); (try clear hb2); (try clear hk); (try clear hi)))
                             (try simp only [Act.put, List.setIfInBounds_toArray, List.set_cons_zero, List.set_cons_succ])
                             go_cut [325] (fun v325 wc => ∃ (kq : Nat) (x325_174 : Bool), v325 = .bool x325_174 ∧ Aside0 (laws_FnCentres.j9 kq t343 t344 t347 t348 t378 x325_174 = some r) ∧ Aside0 (kq ≤ kj160) ∧ Aside0 (Kd.R k33 33 wc w.heap.size (fun _ => True) v380 t378) ∧ Aside0 (wc.heap[gb356]? = some (.cells #[.int .i64 t351, .int .i64 t352] 36 (0, 0))) ∧ Aside0 (wc.heap[gb357]? = some (.cells #[.int .i64 t353, .int .i64 t354] 36 (0, 0))) ∧ Aside0 (wc.heap[gb363]? = some (.cells #[.int .i64 t358, .int .i64 t359] 36 (0, 0))) ∧ Aside0 (wc.heap[gb364]? = some (.cells #[.int .i64 t360, .int .i64 t361] 36 (0, 0))) ∧ Aside0 (wc.heap[gb373]? = some (.cells #[.int .i64 t370, .int .i64 t371] 36 (0, 0))) ∧ Aside0 (wc.heap[gb377]? = some (.cells #[.int .i64 t374, .int .i64 t375] 36 (0, 0))) ∧ Aside0 (Below w.heap.size w wc))
                             case first =>
                              have H := HC175.out
                              clear HC175
                              by_cases c183 : t404 = true
                              rotate_left
                              ·replace c183 := Bool.eq_false_iff.mpr c183
                               subst c183
                               rw [if_neg (show ¬ (false = true) by decide)] at H
                               exact (laws_FnCentres.j9_bad _ H hr).elim
                              subst c183
                              rw [if_pos rfl] at H
                              as_aux_lemma =>
                               have H' := Aside0.mk H
                               clear H
                               go_wp2
                               go_meet
                               case rel => exact ⟨_, ((t403 != 0)), (by first | rfl | (simp; done) | (simp [*]; done) | (simp [bne]; done)), H', ⟨by have := HJ6.out; have := HJ14.out; have := HJ48.out; have := HJ57.out; have := HJ102.out; have := HJ114.out; have := HJ122.out; have := HJ128.out; have := HJ160.out; first | omega | exact Nat.le_refl _⟩, ⟨Kd.R_mono (Sq.R HO_24) (fun _ hk => trivial)⟩, ⟨by (with_reducible repeat first | apply blk_drewN | apply blk_drew | apply blk_alloc); exact BK356.out⟩, ⟨by (with_reducible repeat first | apply blk_drewN | apply blk_drew | apply blk_alloc); exact BK357.out⟩, ⟨by (with_reducible repeat first | apply blk_drewN | apply blk_drew | apply blk_alloc); exact BK363.out⟩, ⟨by (with_reducible repeat first | apply blk_drewN | apply blk_drew | apply blk_alloc); exact BK364.out⟩, ⟨by (with_reducible repeat first | apply blk_drewN | apply blk_drew | apply blk_alloc); exact BK373.out⟩, ⟨by (with_reducible repeat first | apply blk_drewN | apply blk_drew | apply blk_alloc); exact BK377.out⟩, ⟨by repeat (first | (with_reducible first | exact HB.out | apply below_alloc | apply pw_below_drewN | apply below_drew1 | refine below_set ?_ GE356.out | refine below_set ?_ GE357.out | refine below_set ?_ GE363.out | refine below_set ?_ GE364.out | refine below_set ?_ GE373.out | refine below_set ?_ GE377.out) | exact HB.out)⟩⟩
                             case rest =>
                              clear HC175
                              obtain ⟨kq, x325_174, rfl, HA, HJ174, HO_24, BK356, BK357, BK363, BK364, BK373, BK377, HB⟩ := hcut
                              cases kq with
                              | zero => exact absurd HA.out (by simp [laws_FnCentres.j9])
                              | succ kj174 =>
                               have H := HA.out
                               clear HA
                               simp only [laws_FnCentres.j9] at H
                               by_cases c184 : x325_174 = true
                               ·subst c184
                                rw [if_pos rfl] at H
                                obtain rfl := Option.some.inj H
                                cases hr
                               replace c184 := Bool.eq_false_iff.mpr c184
                               subst c184
                               rw [if_neg (show ¬ (false = true) by decide)] at H
                               by_cases c185 : t348 = true
                               rotate_left
                               ·replace c185 := Bool.eq_false_iff.mpr c185
                                subst c185
                                rw [if_neg (show ¬ (false = true) by decide)] at H
                                as_aux_lemma =>
                                 obtain rfl := Option.some.inj H
                                 go_wp2
                                 go_ret
                                 exact ⟨by first | rfl | (simp [errW_none, errW_some] <;> rfl) | (simp [*, errW_none, errW_some] <;> rfl), by repeat (first | (with_reducible first | exact HB.out | apply below_alloc | apply pw_below_drewN | apply below_drew1 | refine below_set ?_ GE356.out | refine below_set ?_ GE357.out | refine below_set ?_ GE363.out | refine below_set ?_ GE364.out | refine below_set ?_ GE373.out | refine below_set ?_ GE377.out) | exact HB.out)⟩
                               subst c185
                               rw [if_pos rfl] at H
                               replace H := Option.bind_eq_some_iff.mp H
                               obtain ⟨⟨t405, t406⟩, A1860, H⟩ := H
                               try dsimp only at H
                               have A186 := Aside0.mk A1860
                               clear A1860
                               by_cases c187 : t406 = true
                               rotate_left
                               ·replace c187 := Bool.eq_false_iff.mpr c187
                                subst c187
                                rw [if_neg (show ¬ (false = true) by decide)] at H
                                obtain rfl := Option.some.inj H
                                cases hr
                               subst c187
                               rw [if_pos rfl] at H
                               as_aux_lemma =>
                                obtain rfl := Option.some.inj H
                                obtain ⟨Ao188, co188, rfl⟩ := Kd.R_slice HO_24.out
                                go_wp2_with (first | ((with_reducible refine gate_callee (f := 14) rfl ?_); refine goesL_ (some 334) rfl rfl Try.func14 (by kernel_rfl) rfl #[.slice Ao188 t378.length co188, .int .i64 (wrap64 (60 - t344)), .int .i64 (wrap64 (60 - t343))] rfl (by (try simp only [List.map_toArray, List.map_cons, List.map_nil]); first | done | rfl | (simp only [List.length_drop, List.length_take]; rfl)) ?_; (with_reducible refine (impl_TipSide.calls kj174 _ _ t378 (wrap64 (60 - t344)) (wrap64 (60 - t343)) t405 true _ ?side1 ?side2 A186.out).mono ?_); (case side1 => exact Sq.r HO_24); (case side2 => exact Sq.n HO_24); rintro e w189 ⟨rfl, hb⟩; refine ⟨_, rfl, ?_⟩; have n0_ := Sq.T HO_24 hb; have n1_ := Aside0.mk (blk_below (g := gb356) (o := .cells #[.int .i64 t351, .int .i64 t352] 36 (0, 0)) (by (with_reducible repeat first | apply blk_drewN | apply blk_drew | apply blk_alloc); exact BK356.out) hb); have n2_ := Aside0.mk (blk_below (g := gb357) (o := .cells #[.int .i64 t353, .int .i64 t354] 36 (0, 0)) (by (with_reducible repeat first | apply blk_drewN | apply blk_drew | apply blk_alloc); exact BK357.out) hb); have n3_ := Aside0.mk (blk_below (g := gb363) (o := .cells #[.int .i64 t358, .int .i64 t359] 36 (0, 0)) (by (with_reducible repeat first | apply blk_drewN | apply blk_drew | apply blk_alloc); exact BK363.out) hb); have n4_ := Aside0.mk (blk_below (g := gb364) (o := .cells #[.int .i64 t360, .int .i64 t361] 36 (0, 0)) (by (with_reducible repeat first | apply blk_drewN | apply blk_drew | apply blk_alloc); exact BK364.out) hb); have n5_ := Aside0.mk (blk_below (g := gb373) (o := .cells #[.int .i64 t370, .int .i64 t371] 36 (0, 0)) (by (with_reducible repeat first | apply blk_drewN | apply blk_drew | apply blk_alloc); exact BK373.out) hb); have n6_ := Aside0.mk (blk_below (g := gb377) (o := .cells #[.int .i64 t374, .int .i64 t375] 36 (0, 0)) (by (with_reducible repeat first | apply blk_drewN | apply blk_drew | apply blk_alloc); exact BK377.out) hb); have n7_ := Aside0.mk (below_step (by repeat (first | (with_reducible first | exact HB.out | apply below_alloc | apply pw_below_drewN | apply below_drew1 | refine below_set ?_ GE356.out | refine below_set ?_ GE357.out | refine below_set ?_ GE363.out | refine below_set ?_ GE364.out | refine below_set ?_ GE373.out | refine below_set ?_ GE377.out) | exact HB.out)) hb); clear HO_24; clear BK356; clear BK357; clear BK363; clear BK364; clear BK373; clear BK377; clear HB; have HO_24 := n0_; have BK356 := n1_; have BK357 := n2_; have BK363 := n3_; have BK364 := n4_; have BK373 := n5_; have BK377 := n6_; have HB := n7_; clear n0_ n1_ n2_ n3_ n4_ n5_ n6_ n7_; (try clear hb); (try clear hb2); (try clear hk); (try clear hi)))
                                go_ret
                                exact ⟨by first | rfl | (simp [errW_none, errW_some] <;> rfl) | (simp [*, errW_none, errW_some] <;> rfl), by repeat (first | (with_reducible first | exact HB.out | apply below_alloc | apply pw_below_drewN | apply below_drew1 | refine below_set ?_ GE356.out | refine below_set ?_ GE357.out | refine below_set ?_ GE363.out | refine below_set ?_ GE364.out | refine below_set ?_ GE373.out | refine below_set ?_ GE377.out) | exact HB.out)⟩
theorem laws_FnCentres.walk (P : laws_FnCentres.Pure) (a0 : Option Addr) (len0 cap0 : Nat) (z0 : List Int) (w : World) (w0 : (a0 = none ∧ len0 = 0 ∧ cap0 = 0 ∧ z0 = []) ∨ ∃ x, a0 = some x ∧ len0 ≤ cap0 ∧ cap0 ≤ maxLen ∧ z0.length = cap0 ∧ (∀ i, i < z0.length → w.cell? (x.add i) = some (.int .u8 (z0.getD i 0))) ∧ ∀ n ∈ z0, (Lit.int .u8 n).wf = true) (y0 : len0 * 1 ≤ 140737488351232) :
  Calls Try.prog 4 #[.slice a0 len0 cap0] w fun e w' => e = .returned (.bool true) ∧ Below w.heap.size w w' := by
 obtain ⟨l0, rfl, hr0, hm0, hw0, hc0⟩ := ReadsInt.ofRowC w0
 obtain ⟨k, h⟩ := P l0 hm0 y0 hw0
 refine (laws_FnCentres.calls k _ _ l0 true w (Kd.C_of_reads (d := (0 : Int)) (h1 := fun _ => rfl) hr0) hc0 h rfl).mono ?_
 rintro e w' ⟨rfl, hd⟩
 exact ⟨rfl, hd⟩

end Go.Proofs.Ytfjcnpoigndfjaa.PFnCentres
