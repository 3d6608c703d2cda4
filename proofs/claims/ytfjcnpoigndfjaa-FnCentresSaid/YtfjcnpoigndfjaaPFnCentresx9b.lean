-- Made by wip/pr.py of this repo over the kit's print (some contracts by hand).
import Derived.Test.YtfjcnpoigndfjaaPFnCentresx0
import Derived.Test.YtfjcnpoigndfjaaPFnCentresx2
import Derived.Test.YtfjcnpoigndfjaaPFnCentresx3
import Derived.Test.YtfjcnpoigndfjaaPFnCentresx4
import Derived.Test.YtfjcnpoigndfjaaPFnCentresx5
import Derived.Test.YtfjcnpoigndfjaaPFnCentresx6
import Derived.Test.YtfjcnpoigndfjaaPFnCentresx7
import Derived.Test.YtfjcnpoigndfjaaPFnCentresx8
import Derived.Test.YtfjcnpoigndfjaaPFnCentresx9
namespace Go.Proofs.Ytfjcnpoigndfjaa.PFnCentres
open Go.RowKit Go.Proofs.YtfjcnpoigndfjaaW.PrintWords Go.Proofs.YtfjcnpoigndfjaaW.PrintLast Go.Proofs.YtfjcnpoigndfjaaW.PrintMore
attribute [local go_sem] max2_int min2_int max_two min_two max_three min_three max_four min_four   -- for this text's walks alone
set_option linter.unusedVariables false
set_option linter.unusedSimpArgs false
set_option maxHeartbeats 200000000 in
set_option maxRecDepth 100000 in
theorem laws_FnCentres.calls (k : Nat) (A0 : Option Addr) (c0 : Nat) (l0 : List Int) (r : Bool) (w : World) (hr0 : Kd.C (Kd.int .u8) w A0 l0.length l0) (hc0 : l0.length ≤ c0) (h : laws_FnCentres.f k l0 = some r) :
  Calls Try.prog 4 #[.slice A0 l0.length c0] w fun e w' => e = .returned (.bool r) ∧ Below w.heap.size w w' := by
 have hqA := fun (W : World) (a b c d : Int) => laws_FnCentres.eqA W a b c d
 have hu36 := Try.underlying36
 have HR0 := Aside0.mk hr0
 have HC0 := Aside0.mk hc0
 clear hr0 hc0
 have HB := Aside0.mk (Below.refl w.heap.size w)
 have H : ((laws_rBig.f l0).bind fun t341 => (if t341 = true then (some true) else ((spec_DrawTipSide.f k l0).bind fun bt342 => ((impl_TipSide.f k bt342.1 bt342.2.1 bt342.2.2).bind fun bt347 => ((spec_TipSide.f k bt342.1 bt342.2.1 bt342.2.2).bind fun bt349 => (if bt347.1 = bt349.1 then (laws_FnCentres.j0 k l0 bt342.1 bt342.2.1 bt342.2.2 bt347.1 bt347.2 (bt347.2 != bt349.2)) else (laws_FnCentres.j0 k l0 bt342.1 bt342.2.1 bt342.2.2 bt347.1 bt347.2 true))))))) = some r := h
 clear h
 replace H := Option.bind_eq_some_iff.mp H
 obtain ⟨t341, A20, H⟩ := H
 replace H : (if t341 = true then (some true) else ((spec_DrawTipSide.f k l0).bind fun bt342 => ((impl_TipSide.f k bt342.1 bt342.2.1 bt342.2.2).bind fun bt347 => ((spec_TipSide.f k bt342.1 bt342.2.1 bt342.2.2).bind fun bt349 => (if bt347.1 = bt349.1 then (laws_FnCentres.j0 k l0 bt342.1 bt342.2.1 bt342.2.2 bt347.1 bt347.2 (bt347.2 != bt349.2)) else (laws_FnCentres.j0 k l0 bt342.1 bt342.2.1 bt342.2.2 bt347.1 bt347.2 true)))))) = some r := H
 have A2 := Aside0.mk A20
 clear A20
 by_cases c3 : t341 = true
 ·subst c3
  have H1 : (some true) = some r := by rw [if_pos rfl] at H; exact H
  clear H
  have H := H1
  clear H1
  as_aux_lemma =>
   obtain rfl := Option.some.inj H
   go_enter Try.func4, Try.ntmps4
   go_wp2_with (first | ((with_reducible refine gate_callee (f := 5) rfl ?_); refine goesL_ (some 47) rfl rfl Try.func5 (by kernel_rfl) rfl #[.slice A0 l0.length c0] rfl (by (try simp only [List.map_toArray, List.map_cons, List.map_nil]); first | done | rfl | (simp only [List.length_drop, List.length_take]; rfl)) ?_; (with_reducible refine (laws_rBig.calls _ _ l0 true _ ?side1 ?side2 A2.out).mono ?_); (case side1 => repeat (first | exact HR0.out | (with_reducible refine Kd.C_alloc ?_ _) | (with_reducible refine Kd.C_drewN ?_ _) | (with_reducible refine Kd.C_drew ?_))); (case side2 => exact HC0.out); rintro e w' ⟨rfl, ⟨nd, rfl⟩⟩; refine ⟨_, rfl, ?_⟩))
   go_ret
   exact ⟨by first | rfl | (simp [errW_none, errW_some] <;> rfl) | (simp [*, errW_none, errW_some] <;> rfl), by repeat (first | (with_reducible first | exact HB.out | apply below_alloc | apply pw_below_drewN | apply below_drew1) | exact HB.out)⟩
 replace c3 := Bool.eq_false_iff.mpr c3
 subst c3
 have H1 : ((spec_DrawTipSide.f k l0).bind fun bt342 => ((impl_TipSide.f k bt342.1 bt342.2.1 bt342.2.2).bind fun bt347 => ((spec_TipSide.f k bt342.1 bt342.2.1 bt342.2.2).bind fun bt349 => (if bt347.1 = bt349.1 then (laws_FnCentres.j0 k l0 bt342.1 bt342.2.1 bt342.2.2 bt347.1 bt347.2 (bt347.2 != bt349.2)) else (laws_FnCentres.j0 k l0 bt342.1 bt342.2.1 bt342.2.2 bt347.1 bt347.2 true))))) = some r := by rw [if_neg (show ¬ (false = true) by decide)] at H; exact H
 clear H
 have H := H1
 clear H1
 replace H := Option.bind_eq_some_iff.mp H
 obtain ⟨⟨t342, t343, t344⟩, A40, H⟩ := H
 replace H : ((impl_TipSide.f k t342 t343 t344).bind fun bt347 => ((spec_TipSide.f k t342 t343 t344).bind fun bt349 => (if bt347.1 = bt349.1 then (laws_FnCentres.j0 k l0 t342 t343 t344 bt347.1 bt347.2 (bt347.2 != bt349.2)) else (laws_FnCentres.j0 k l0 t342 t343 t344 bt347.1 bt347.2 true)))) = some r := H
 have A4 := Aside0.mk A40
 clear A40
 replace H := Option.bind_eq_some_iff.mp H
 obtain ⟨⟨t347, t348⟩, A50, H⟩ := H
 replace H : ((spec_TipSide.f k t342 t343 t344).bind fun bt349 => (if t347 = bt349.1 then (laws_FnCentres.j0 k l0 t342 t343 t344 t347 t348 (t348 != bt349.2)) else (laws_FnCentres.j0 k l0 t342 t343 t344 t347 t348 true))) = some r := H
 have A5 := Aside0.mk A50
 clear A50
 replace H := Option.bind_eq_some_iff.mp H
 obtain ⟨⟨t349, t350⟩, A60, H⟩ := H
 replace H : (if t347 = t349 then (laws_FnCentres.j0 k l0 t342 t343 t344 t347 t348 (t348 != t350)) else (laws_FnCentres.j0 k l0 t342 t343 t344 t347 t348 true)) = some r := H
 have A6 := Aside0.mk A60
 clear A60
 have HC7 := Aside0.mk H
 clear H
 go_enter Try.func4, Try.ntmps4
 as_aux_lemma =>
  go_upto_region 6 with (first | ((with_reducible refine gate_callee (f := 5) rfl ?_); refine goesL_ (some 47) rfl rfl Try.func5 (by kernel_rfl) rfl #[.slice A0 l0.length c0] rfl (by (try simp only [List.map_toArray, List.map_cons, List.map_nil]); first | done | rfl | (simp only [List.length_drop, List.length_take]; rfl)) ?_; (with_reducible refine (laws_rBig.calls _ _ l0 false _ ?side1 ?side2 A2.out).mono ?_); (case side1 => repeat (first | exact HR0.out | (with_reducible refine Kd.C_alloc ?_ _) | (with_reducible refine Kd.C_drewN ?_ _) | (with_reducible refine Kd.C_drew ?_))); (case side2 => exact HC0.out); rintro e w' ⟨rfl, ⟨nd, rfl⟩⟩; refine ⟨_, rfl, ?_⟩) | ((with_reducible refine gate_callee (f := 15) rfl ?_); refine goesL_ (some 50) rfl rfl Try.func15 (by kernel_rfl) rfl #[.slice A0 l0.length c0] rfl (by (try simp only [List.map_toArray, List.map_cons, List.map_nil]); first | done | rfl | (simp only [List.length_drop, List.length_take]; rfl)) ?_; (with_reducible refine (spec_DrawTipSide.calls k _ _ l0 t342 t343 t344 _ ?side1 ?side2 A4.out).mono ?_); (case side1 => repeat (first | exact HR0.out | (with_reducible refine Kd.C_alloc ?_ _) | (with_reducible refine Kd.C_drewN ?_ _) | (with_reducible refine Kd.C_drew ?_))); (case side2 => exact HC0.out); rintro e w8 ⟨v345, rfl, ho0, hb⟩; refine ⟨_, rfl, ?_⟩; have n0_ := Aside0.mk (Kd.R_lower ho0 (below_size (by repeat (first | (with_reducible first | exact HB.out | apply below_alloc | apply pw_below_drewN | apply below_drew1) | exact HB.out)))); have n1_ := Aside0.mk (below_step (by repeat (first | (with_reducible first | exact HB.out | apply below_alloc | apply pw_below_drewN | apply below_drew1) | exact HB.out)) hb); clear HB; have HO346 := n0_; have HB := n1_; clear n0_ n1_; (try clear hb); (try clear hb2); (try clear hk); (try clear hi); (try clear ho0); obtain ⟨Ao9, co9, eo9⟩ := Kd.R_slice HO346.out; subst eo9) | ((with_reducible refine gate_callee (f := 14) rfl ?_); refine goesL_ (some 58) rfl rfl Try.func14 (by kernel_rfl) rfl #[.slice Ao9 t342.length co9, .int .i64 t343, .int .i64 t344] rfl (by (try simp only [List.map_toArray, List.map_cons, List.map_nil]); first | done | rfl | (simp only [List.length_drop, List.length_take]; rfl)) ?_; (with_reducible refine (impl_TipSide.calls k _ _ t342 t343 t344 t347 t348 _ ?side1 ?side2 A5.out).mono ?_); (case side1 => repeat (first | exact (Kd.R_reads' HO346.out).2.2 | (with_reducible refine Kd.C_alloc ?_ _) | (with_reducible refine Kd.C_drewN ?_ _) | (with_reducible refine Kd.C_drew ?_))); (case side2 => exact (Kd.R_reads' HO346.out).2.1); rintro e w10 ⟨rfl, hb⟩; refine ⟨_, rfl, ?_⟩; have n0_ := Aside0.mk (Kd.R_below (by (with_reducible repeat (first | apply Kd.R_alloc | apply Kd.R_drewN | apply Kd.R_drew)); exact HO346.out) hb); have n1_ := Aside0.mk (below_step (by repeat (first | (with_reducible first | exact HB.out | apply below_alloc | apply pw_below_drewN | apply below_drew1) | exact HB.out)) hb); clear HO346; clear HB; have HO346 := n0_; have HB := n1_; clear n0_ n1_; (try clear hb); (try clear hb2); (try clear hk); (try clear hi)) | ((with_reducible refine gate_callee (f := 16) rfl ?_); refine goesL_ (some 65) rfl rfl Try.func16 (by kernel_rfl) rfl #[.slice Ao9 t342.length co9, .int .i64 t343, .int .i64 t344] rfl (by (try simp only [List.map_toArray, List.map_cons, List.map_nil]); first | done | rfl | (simp only [List.length_drop, List.length_take]; rfl)) ?_; (with_reducible refine (spec_TipSide.calls k _ _ t342 t343 t344 t349 t350 _ ?side1 ?side2 A6.out).mono ?_); (case side1 => repeat (first | exact (Kd.R_reads' HO346.out).2.2 | (with_reducible refine Kd.C_alloc ?_ _) | (with_reducible refine Kd.C_drewN ?_ _) | (with_reducible refine Kd.C_drew ?_))); (case side2 => exact (Kd.R_reads' HO346.out).2.1); rintro e w' ⟨rfl, ⟨nd, rfl⟩⟩; refine ⟨_, rfl, ?_⟩))
  (try simp only [Act.put, List.setIfInBounds_toArray, List.set_cons_zero, List.set_cons_succ])
  go_cut [75] (fun v75 wc => ∃ (kq : Nat) (x75_6 : Bool), v75 = .bool x75_6 ∧ Aside0 (laws_FnCentres.j0 kq l0 t342 t343 t344 t347 t348 x75_6 = some r) ∧ Aside0 (kq ≤ k) ∧ Aside0 (Kd.R k33 33 wc w.heap.size (fun _ => True) (.slice Ao9 t342.length co9) t342) ∧ Aside0 (Below w.heap.size w wc))
  case first =>
   have H := HC7.out
   clear HC7
   by_cases c11 : t347 = t349
   rotate_left
   ·rw [if_neg c11] at H
    have c11b0 : (t347 == t349) = false := beq_eq_false_iff_ne.mpr c11
    have c11b1 : (t347 != t349) = true := bne_iff_ne.mpr c11
    (first | rw [c11b0] | (simp only [i64_w, i32_w]; rw [c11b0]) | skip)
    as_aux_lemma =>
     have H' := Aside0.mk H
     clear H
     go_wp2
     go_meet
     case rel => exact ⟨_, (true), (by first | rfl | (simp; done) | (simp [*]; done) | (simp [bne]; done)), H', ⟨by first | omega | exact Nat.le_refl _⟩, ⟨by (with_reducible repeat (first | apply Kd.R_alloc | apply Kd.R_drewN | apply Kd.R_drew)); exact HO346.out⟩, ⟨by repeat (first | (with_reducible first | exact HB.out | apply below_alloc | apply pw_below_drewN | apply below_drew1) | exact HB.out)⟩⟩
   rw [if_pos c11] at H
   have c11b0 : (t347 == t349) = true := beq_iff_eq.mpr c11
   have c11b1 : (t347 != t349) = false := bne_eq_false_iff_eq.mpr c11
   clear c11
   (first | rw [c11b0] | (simp only [i64_w, i32_w]; rw [c11b0]) | skip)
   as_aux_lemma =>
    have H' := Aside0.mk H
    clear H
    go_wp2
    go_meet
    case rel => exact ⟨_, ((t348 != t350)), (by first | rfl | (simp; done) | (simp [*]; done) | (simp [bne]; done)), H', ⟨by first | omega | exact Nat.le_refl _⟩, ⟨by (with_reducible repeat (first | apply Kd.R_alloc | apply Kd.R_drewN | apply Kd.R_drew)); exact HO346.out⟩, ⟨by repeat (first | (with_reducible first | exact HB.out | apply below_alloc | apply pw_below_drewN | apply below_drew1) | exact HB.out)⟩⟩
  case rest =>
   clear HC7
   obtain ⟨kq, x75_6, rfl, HA, HJ6, HO_3, HB⟩ := hcut
   cases kq with
   | zero => exact absurd HA.out (by simp [laws_FnCentres.j0])
   | succ kj6 =>
    have H := HA.out
    clear HA
    simp only [laws_FnCentres.j0] at H
    by_cases c12 : x75_6 = true
    ·subst c12
     have H1 : (some false) = some r := by rw [if_pos rfl] at H; exact H
     clear H
     have H := H1
     clear H1
     as_aux_lemma =>
      obtain rfl := Option.some.inj H
      go_wp2
      go_ret
      exact ⟨by first | rfl | (simp [errW_none, errW_some] <;> rfl) | (simp [*, errW_none, errW_some] <;> rfl), by repeat (first | (with_reducible first | exact HB.out | apply below_alloc | apply pw_below_drewN | apply below_drew1) | exact HB.out)⟩
    replace c12 := Bool.eq_false_iff.mpr c12
    subst c12
    have H1 : ((impl_ReactionsOf.f kj6 t342 t343 t344).bind fun bt351 => ((spec_ReactionsOf.f kj6 t342 t343 t344).bind fun bt358 => (if bt351.1 = bt358.1 then (if bt351.2.1 = bt358.2.1 then (if bt351.2.2.1 = bt358.2.2.1 then (if bt351.2.2.2.1 = bt358.2.2.2.1 then (laws_FnCentres.j1 kj6 l0 t342 t343 t344 t347 t348 bt351.2.2.2.2 (bt351.2.2.2.2 != bt358.2.2.2.2) bt351.1 bt351.2.1 bt351.2.2.1 bt351.2.2.2.1) else (laws_FnCentres.j1 kj6 l0 t342 t343 t344 t347 t348 bt351.2.2.2.2 true bt351.1 bt351.2.1 bt351.2.2.1 bt351.2.2.2.1)) else (laws_FnCentres.j1 kj6 l0 t342 t343 t344 t347 t348 bt351.2.2.2.2 true bt351.1 bt351.2.1 bt351.2.2.1 bt351.2.2.2.1)) else (laws_FnCentres.j1 kj6 l0 t342 t343 t344 t347 t348 bt351.2.2.2.2 true bt351.1 bt351.2.1 bt351.2.2.1 bt351.2.2.2.1)) else (laws_FnCentres.j1 kj6 l0 t342 t343 t344 t347 t348 bt351.2.2.2.2 true bt351.1 bt351.2.1 bt351.2.2.1 bt351.2.2.2.1)))) = some r := by rw [if_neg (show ¬ (false = true) by decide)] at H; exact H
    clear H
    have H := H1
    clear H1
    replace H := Option.bind_eq_some_iff.mp H
    obtain ⟨⟨t351, t352, t353, t354, t355⟩, A130, H⟩ := H
    replace H : ((spec_ReactionsOf.f kj6 t342 t343 t344).bind fun bt358 => (if t351 = bt358.1 then (if t352 = bt358.2.1 then (if t353 = bt358.2.2.1 then (if t354 = bt358.2.2.2.1 then (laws_FnCentres.j1 kj6 l0 t342 t343 t344 t347 t348 t355 (t355 != bt358.2.2.2.2) t351 t352 t353 t354) else (laws_FnCentres.j1 kj6 l0 t342 t343 t344 t347 t348 t355 true t351 t352 t353 t354)) else (laws_FnCentres.j1 kj6 l0 t342 t343 t344 t347 t348 t355 true t351 t352 t353 t354)) else (laws_FnCentres.j1 kj6 l0 t342 t343 t344 t347 t348 t355 true t351 t352 t353 t354)) else (laws_FnCentres.j1 kj6 l0 t342 t343 t344 t347 t348 t355 true t351 t352 t353 t354))) = some r := H
    have A13 := Aside0.mk A130
    clear A130
    replace H := Option.bind_eq_some_iff.mp H
    obtain ⟨⟨t358, t359, t360, t361, t362⟩, A140, H⟩ := H
    replace H : (if t351 = t358 then (if t352 = t359 then (if t353 = t360 then (if t354 = t361 then (laws_FnCentres.j1 kj6 l0 t342 t343 t344 t347 t348 t355 (t355 != t362) t351 t352 t353 t354) else (laws_FnCentres.j1 kj6 l0 t342 t343 t344 t347 t348 t355 true t351 t352 t353 t354)) else (laws_FnCentres.j1 kj6 l0 t342 t343 t344 t347 t348 t355 true t351 t352 t353 t354)) else (laws_FnCentres.j1 kj6 l0 t342 t343 t344 t347 t348 t355 true t351 t352 t353 t354)) else (laws_FnCentres.j1 kj6 l0 t342 t343 t344 t347 t348 t355 true t351 t352 t353 t354)) = some r := H
    have A14 := Aside0.mk A140
    clear A140
    have HC15 := Aside0.mk H
    clear H
    as_aux_lemma =>
     go_upto_region 10 with (first | ((with_reducible refine gate_callee (f := 17) rfl ?_); refine goesL_ (some 80) rfl rfl Try.func17 (by kernel_rfl) rfl #[.slice Ao9 t342.length co9, .int .i64 t343, .int .i64 t344] rfl (by (try simp only [List.map_toArray, List.map_cons, List.map_nil]); first | done | rfl | (simp only [List.length_drop, List.length_take]; rfl)) ?_; (with_reducible refine (impl_ReactionsOf.calls kj6 _ _ t342 t343 t344 t351 t352 t353 t354 t355 _ ?side1 ?side2 A13.out).mono ?_); (case side1 => repeat (first | exact (Kd.R_reads' HO_3.out).2.2 | (with_reducible refine Kd.C_alloc ?_ _) | (with_reducible refine Kd.C_drewN ?_ _) | (with_reducible refine Kd.C_drew ?_))); (case side2 => exact (Kd.R_reads' HO_3.out).2.1); rintro e w16 ⟨rfl, hb⟩; refine ⟨_, rfl, ?_⟩; have n0_ := Aside0.mk (Kd.R_below (by (with_reducible repeat (first | apply Kd.R_alloc | apply Kd.R_drewN | apply Kd.R_drew)); exact HO_3.out) hb); have n1_ := Aside0.mk (below_step (by repeat (first | (with_reducible first | exact HB.out | apply below_alloc | apply pw_below_drewN | apply below_drew1) | exact HB.out)) hb); clear HO_3; clear HB; have HO_3 := n0_; have HB := n1_; clear n0_ n1_; (try clear hb); (try clear hb2); (try clear hk); (try clear hi)) | ((with_reducible refine gate_dst (N := 10) rfl ?_); (try (refine gate_guard (by rfl) ?_; dsimp only)); refine box_event ?hg (N := 10) ?hd (cs := #[.int .i64 0, .int .i64 0]) (t := 36) ?hr ?_; (case hd => rfl); (case hg => rfl); (case hr => first | (go_simp; done) | (go_simp; rfl)); intro gb356 hg w17 hbox hb; have n0_ := Aside0.mk (Kd.R_below (by (with_reducible repeat (first | apply Kd.R_alloc | apply Kd.R_drewN | apply Kd.R_drew)); exact HO_3.out) hb); have n1_ := Aside0.mk (below_step (by repeat (first | (with_reducible first | exact HB.out | apply below_alloc | apply pw_below_drewN | apply below_drew1) | exact HB.out)) hb); have n2_ := Aside0.mk (hbox); have n3_ := Aside0.mk ((by rw [hg]; exact (below_size (by repeat (first | (with_reducible first | exact HB.out | apply below_alloc | apply pw_below_drewN | apply below_drew1) | exact HB.out))) : w.heap.size ≤ gb356)); have n4_ := Aside0.mk ((by rw [hg]; exact (below_size (by repeat (first | (with_reducible first | exact HB.out | apply below_alloc | apply pw_below_drewN | apply below_drew1) | exact HB.out))) : w.heap.size ≤ gb356)); clear HO_3; clear HB; have HO_3 := n0_; have HB := n1_; have BK356 := n2_; have GW356 := n3_; have GE356 := n4_; clear n0_ n1_ n2_ n3_ n4_; clear hb hbox hg) | ((with_reducible refine gate_dst (N := 11) rfl ?_); (try (refine gate_guard (by rfl) ?_; dsimp only)); refine box_event ?hg (N := 11) ?hd (cs := #[.int .i64 0, .int .i64 0]) (t := 36) ?hr ?_; (case hd => rfl); (case hg => rfl); (case hr => first | (go_simp; done) | (go_simp; rfl)); intro gb357 hg w18 hbox hb; have n0_ := Aside0.mk (Kd.R_below (by (with_reducible repeat (first | apply Kd.R_alloc | apply Kd.R_drewN | apply Kd.R_drew)); exact HO_3.out) hb); have n1_ := Aside0.mk (blk_below (g := gb356) (o := .cells #[.int .i64 0, .int .i64 0] 36 (0, 0)) (by (with_reducible repeat first | apply blk_drewN | apply blk_drew | apply blk_alloc); exact BK356.out) hb); have n2_ := Aside0.mk (below_step (by repeat (first | (with_reducible first | exact HB.out | apply below_alloc | apply pw_below_drewN | apply below_drew1 | refine below_set ?_ GE356.out) | exact HB.out)) hb); have n3_ := Aside0.mk (hbox); have n4_ := Aside0.mk ((by rw [hg]; exact (below_size (by repeat (first | (with_reducible first | exact HB.out | apply below_alloc | apply pw_below_drewN | apply below_drew1 | refine below_set ?_ GE356.out) | exact HB.out))) : w.heap.size ≤ gb357)); have n5_ := Aside0.mk ((by rw [hg]; exact (below_size (by repeat (first | (with_reducible first | exact HB.out | apply below_alloc | apply pw_below_drewN | apply below_drew1 | refine below_set ?_ GE356.out) | exact HB.out))) : w.heap.size ≤ gb357)); have n6_ := Aside0.mk ((by rw [hg]; exact Nat.ne_of_lt (blk_lt (g := gb356) (o := .cells #[.int .i64 0, .int .i64 0] 36 (0, 0)) (by (with_reducible repeat first | apply blk_drewN | apply blk_drew | apply blk_alloc); exact BK356.out)) : gb356 ≠ gb357)); have n7_ := Aside0.mk ((by rw [hg]; exact Nat.ne_of_gt (blk_lt (g := gb356) (o := .cells #[.int .i64 0, .int .i64 0] 36 (0, 0)) (by (with_reducible repeat first | apply blk_drewN | apply blk_drew | apply blk_alloc); exact BK356.out)) : gb357 ≠ gb356)); clear HO_3; clear BK356; clear HB; have HO_3 := n0_; have BK356 := n1_; have HB := n2_; have BK357 := n3_; have GW357 := n4_; have GE357 := n5_; have NB356_357 := n6_; have NB357_356 := n7_; clear n0_ n1_ n2_ n3_ n4_ n5_ n6_ n7_; clear hb hbox hg; have hnb19 := NB356_357.out; have hnc19 := NB357_356.out; have hcz20_0 : w18.cell? ⟨gb356, 0, none⟩ = some (.int .i64 0) := (blk_cell BK356.out 0).trans rfl; have hcz20_1 : w18.cell? ⟨gb356, 1, none⟩ = some (.int .i64 0) := (blk_cell BK356.out 1).trans rfl; have hfz20_0 := blk_frozen BK356.out 0; have hfz20_1 := blk_frozen BK356.out 1; have hcz21_0 : w18.cell? ⟨gb357, 0, none⟩ = some (.int .i64 0) := (blk_cell BK357.out 0).trans rfl; have hcz21_1 : w18.cell? ⟨gb357, 1, none⟩ = some (.int .i64 0) := (blk_cell BK357.out 1).trans rfl; have hfz21_0 := blk_frozen BK357.out 0; have hfz21_1 := blk_frozen BK357.out 1) | ((with_reducible refine gate_callee (f := 18) rfl ?_); refine goesL_ (some 88) rfl rfl Try.func18 (by kernel_rfl) rfl #[.slice Ao9 t342.length co9, .int .i64 t343, .int .i64 t344] rfl (by (try simp only [List.map_toArray, List.map_cons, List.map_nil]); first | done | rfl | (simp only [List.length_drop, List.length_take]; rfl)) ?_; (with_reducible refine (spec_ReactionsOf.calls kj6 _ _ t342 t343 t344 t358 t359 t360 t361 t362 _ ?side1 ?side2 A14.out).mono ?_); (case side1 => refine (Kd.R_reads' (e := 33) (base := w.heap.size) (ok := fun k_ => True) (n := t342.length) (c := co9) ?_).2.2; exact (by (with_reducible repeat (first | apply Kd.R_alloc | apply Kd.R_drewN | apply Kd.R_drew)); exact (Kd.R_mono (Kd.R_mono (Kd.R_far (p := ⟨gb357, 1, none⟩) (Kd.R_far (p := ⟨gb357, 0, none⟩) (Kd.R_far (p := ⟨gb356, 1, none⟩) (Kd.R_far (p := ⟨gb356, 0, none⟩) (Kd.R_types (Kd.R_types HO_3.out BK356.out (by decide)) BK357.out (by decide)) (fun _ hk => hk.1.2) (.int .i64 t351)) (fun _ hk => hk.1.2) (.int .i64 t352)) (fun _ hk => hk.2) (.int .i64 t353)) (fun _ hk => hk.2) (.int .i64 t354)) (fun _ h_ => h_.1)) (fun _ h_ => h_.1)))); (case side2 => exact (Kd.R_reads' HO_3.out).2.1); rintro e w22 ⟨rfl, hb⟩; refine ⟨_, rfl, ?_⟩; have n0_ := Aside0.mk (Kd.R_below (by (with_reducible repeat (first | apply Kd.R_alloc | apply Kd.R_drewN | apply Kd.R_drew)); exact (Kd.R_mono (Kd.R_mono (Kd.R_far (p := ⟨gb357, 1, none⟩) (Kd.R_far (p := ⟨gb357, 0, none⟩) (Kd.R_far (p := ⟨gb356, 1, none⟩) (Kd.R_far (p := ⟨gb356, 0, none⟩) (Kd.R_types (Kd.R_types HO_3.out BK356.out (by decide)) BK357.out (by decide)) (fun _ hk => hk.1.2) (.int .i64 t351)) (fun _ hk => hk.1.2) (.int .i64 t352)) (fun _ hk => hk.2) (.int .i64 t353)) (fun _ hk => hk.2) (.int .i64 t354)) (fun _ h_ => h_.1)) (fun _ h_ => h_.1))) hb); have n1_ := Aside0.mk (blk_below (g := gb356) (o := .cells #[.int .i64 t351, .int .i64 t352] 36 (0, 0)) (by (with_reducible repeat first | apply blk_drewN | apply blk_drew | apply blk_alloc); refine blk_far ?_ NB356_357.out _; (with_reducible repeat first | apply blk_drewN | apply blk_drew | apply blk_alloc); refine blk_far ?_ NB356_357.out _; (with_reducible repeat first | apply blk_drewN | apply blk_drew | apply blk_alloc); refine blk_put (cs := #[.int .i64 t351, .int .i64 0]) ?_ 1 _ rfl; (with_reducible repeat first | apply blk_drewN | apply blk_drew | apply blk_alloc); refine blk_put (cs := #[.int .i64 0, .int .i64 0]) ?_ 0 _ rfl; (with_reducible repeat first | apply blk_drewN | apply blk_drew | apply blk_alloc); exact BK356.out) hb); have n2_ := Aside0.mk (blk_below (g := gb357) (o := .cells #[.int .i64 t353, .int .i64 t354] 36 (0, 0)) (by (with_reducible repeat first | apply blk_drewN | apply blk_drew | apply blk_alloc); refine blk_put (cs := #[.int .i64 t353, .int .i64 0]) ?_ 1 _ rfl; (with_reducible repeat first | apply blk_drewN | apply blk_drew | apply blk_alloc); refine blk_put (cs := #[.int .i64 0, .int .i64 0]) ?_ 0 _ rfl; (with_reducible repeat first | apply blk_drewN | apply blk_drew | apply blk_alloc); refine blk_far ?_ NB357_356.out _; (with_reducible repeat first | apply blk_drewN | apply blk_drew | apply blk_alloc); refine blk_far ?_ NB357_356.out _; (with_reducible repeat first | apply blk_drewN | apply blk_drew | apply blk_alloc); exact BK357.out) hb); have n3_ := Aside0.mk (below_step (by repeat (first | (with_reducible first | exact HB.out | apply below_alloc | apply pw_below_drewN | apply below_drew1 | refine below_set ?_ GE356.out | refine below_set ?_ GE357.out) | exact HB.out)) hb); clear HO_3; clear BK356; clear BK357; clear HB; have HO_3 := n0_; have BK356 := n1_; have BK357 := n2_; have HB := n3_; clear n0_ n1_ n2_ n3_; (try clear hb); (try clear hb2); (try clear hk); (try clear hi)) | ((with_reducible refine gate_dst (N := 13) rfl ?_); (try (refine gate_guard (by rfl) ?_; dsimp only)); refine box_event ?hg (N := 13) ?hd (cs := #[.int .i64 0, .int .i64 0]) (t := 36) ?hr ?_; (case hd => rfl); (case hg => rfl); (case hr => first | (go_simp; done) | (go_simp; rfl)); intro gb363 hg w23 hbox hb; have n0_ := Aside0.mk (Kd.R_below (by (with_reducible repeat (first | apply Kd.R_alloc | apply Kd.R_drewN | apply Kd.R_drew)); exact HO_3.out) hb); have n1_ := Aside0.mk (blk_below (g := gb356) (o := .cells #[.int .i64 t351, .int .i64 t352] 36 (0, 0)) (by (with_reducible repeat first | apply blk_drewN | apply blk_drew | apply blk_alloc); exact BK356.out) hb); have n2_ := Aside0.mk (blk_below (g := gb357) (o := .cells #[.int .i64 t353, .int .i64 t354] 36 (0, 0)) (by (with_reducible repeat first | apply blk_drewN | apply blk_drew | apply blk_alloc); exact BK357.out) hb); have n3_ := Aside0.mk (below_step (by repeat (first | (with_reducible first | exact HB.out | apply below_alloc | apply pw_below_drewN | apply below_drew1 | refine below_set ?_ GE356.out | refine below_set ?_ GE357.out) | exact HB.out)) hb); have n4_ := Aside0.mk (hbox); have n5_ := Aside0.mk ((by rw [hg]; exact (below_size (by repeat (first | (with_reducible first | exact HB.out | apply below_alloc | apply pw_below_drewN | apply below_drew1 | refine below_set ?_ GE356.out | refine below_set ?_ GE357.out) | exact HB.out))) : w.heap.size ≤ gb363)); have n6_ := Aside0.mk ((by rw [hg]; exact (below_size (by repeat (first | (with_reducible first | exact HB.out | apply below_alloc | apply pw_below_drewN | apply below_drew1 | refine below_set ?_ GE356.out | refine below_set ?_ GE357.out) | exact HB.out))) : w.heap.size ≤ gb363)); have n7_ := Aside0.mk ((by rw [hg]; exact Nat.ne_of_lt (blk_lt (g := gb356) (o := .cells #[.int .i64 t351, .int .i64 t352] 36 (0, 0)) (by (with_reducible repeat first | apply blk_drewN | apply blk_drew | apply blk_alloc); exact BK356.out)) : gb356 ≠ gb363)); have n8_ := Aside0.mk ((by rw [hg]; exact Nat.ne_of_gt (blk_lt (g := gb356) (o := .cells #[.int .i64 t351, .int .i64 t352] 36 (0, 0)) (by (with_reducible repeat first | apply blk_drewN | apply blk_drew | apply blk_alloc); exact BK356.out)) : gb363 ≠ gb356)); have n9_ := Aside0.mk ((by rw [hg]; exact Nat.ne_of_lt (blk_lt (g := gb357) (o := .cells #[.int .i64 t353, .int .i64 t354] 36 (0, 0)) (by (with_reducible repeat first | apply blk_drewN | apply blk_drew | apply blk_alloc); exact BK357.out)) : gb357 ≠ gb363)); have n10_ := Aside0.mk ((by rw [hg]; exact Nat.ne_of_gt (blk_lt (g := gb357) (o := .cells #[.int .i64 t353, .int .i64 t354] 36 (0, 0)) (by (with_reducible repeat first | apply blk_drewN | apply blk_drew | apply blk_alloc); exact BK357.out)) : gb363 ≠ gb357)); clear HO_3; clear BK356; clear BK357; clear HB; have HO_3 := n0_; have BK356 := n1_; have BK357 := n2_; have HB := n3_; have BK363 := n4_; have GW363 := n5_; have GE363 := n6_; have NB356_363 := n7_; have NB363_356 := n8_; have NB357_363 := n9_; have NB363_357 := n10_; clear n0_ n1_ n2_ n3_ n4_ n5_ n6_ n7_ n8_ n9_ n10_; clear hb hbox hg) | ((with_reducible refine gate_dst (N := 14) rfl ?_); (try (refine gate_guard (by rfl) ?_; dsimp only)); refine box_event ?hg (N := 14) ?hd (cs := #[.int .i64 0, .int .i64 0]) (t := 36) ?hr ?_; (case hd => rfl); (case hg => rfl); (case hr => first | (go_simp; done) | (go_simp; rfl)); intro gb364 hg w24 hbox hb; have n0_ := Aside0.mk (Kd.R_below (by (with_reducible repeat (first | apply Kd.R_alloc | apply Kd.R_drewN | apply Kd.R_drew)); exact HO_3.out) hb); have n1_ := Aside0.mk (blk_below (g := gb356) (o := .cells #[.int .i64 t351, .int .i64 t352] 36 (0, 0)) (by (with_reducible repeat first | apply blk_drewN | apply blk_drew | apply blk_alloc); exact BK356.out) hb); have n2_ := Aside0.mk (blk_below (g := gb357) (o := .cells #[.int .i64 t353, .int .i64 t354] 36 (0, 0)) (by (with_reducible repeat first | apply blk_drewN | apply blk_drew | apply blk_alloc); exact BK357.out) hb); have n3_ := Aside0.mk (blk_below (g := gb363) (o := .cells #[.int .i64 0, .int .i64 0] 36 (0, 0)) (by (with_reducible repeat first | apply blk_drewN | apply blk_drew | apply blk_alloc); exact BK363.out) hb); have n4_ := Aside0.mk (below_step (by repeat (first | (with_reducible first | exact HB.out | apply below_alloc | apply pw_below_drewN | apply below_drew1 | refine below_set ?_ GE356.out | refine below_set ?_ GE357.out | refine below_set ?_ GE363.out) | exact HB.out)) hb); have n5_ := Aside0.mk (hbox); have n6_ := Aside0.mk ((by rw [hg]; exact (below_size (by repeat (first | (with_reducible first | exact HB.out | apply below_alloc | apply pw_below_drewN | apply below_drew1 | refine below_set ?_ GE356.out | refine below_set ?_ GE357.out | refine below_set ?_ GE363.out) | exact HB.out))) : w.heap.size ≤ gb364)); have n7_ := Aside0.mk ((by rw [hg]; exact (below_size (by repeat (first | (with_reducible first | exact HB.out | apply below_alloc | apply pw_below_drewN | apply below_drew1 | refine below_set ?_ GE356.out | refine below_set ?_ GE357.out | refine below_set ?_ GE363.out) | exact HB.out))) : w.heap.size ≤ gb364)); have n8_ := Aside0.mk ((by rw [hg]; exact Nat.ne_of_lt (blk_lt (g := gb356) (o := .cells #[.int .i64 t351, .int .i64 t352] 36 (0, 0)) (by (with_reducible repeat first | apply blk_drewN | apply blk_drew | apply blk_alloc); exact BK356.out)) : gb356 ≠ gb364)); have n9_ := Aside0.mk ((by rw [hg]; exact Nat.ne_of_gt (blk_lt (g := gb356) (o := .cells #[.int .i64 t351, .int .i64 t352] 36 (0, 0)) (by (with_reducible repeat first | apply blk_drewN | apply blk_drew | apply blk_alloc); exact BK356.out)) : gb364 ≠ gb356)); have n10_ := Aside0.mk ((by rw [hg]; exact Nat.ne_of_lt (blk_lt (g := gb357) (o := .cells #[.int .i64 t353, .int .i64 t354] 36 (0, 0)) (by (with_reducible repeat first | apply blk_drewN | apply blk_drew | apply blk_alloc); exact BK357.out)) : gb357 ≠ gb364)); have n11_ := Aside0.mk ((by rw [hg]; exact Nat.ne_of_gt (blk_lt (g := gb357) (o := .cells #[.int .i64 t353, .int .i64 t354] 36 (0, 0)) (by (with_reducible repeat first | apply blk_drewN | apply blk_drew | apply blk_alloc); exact BK357.out)) : gb364 ≠ gb357)); have n12_ := Aside0.mk ((by rw [hg]; exact Nat.ne_of_lt (blk_lt (g := gb363) (o := .cells #[.int .i64 0, .int .i64 0] 36 (0, 0)) (by (with_reducible repeat first | apply blk_drewN | apply blk_drew | apply blk_alloc); exact BK363.out)) : gb363 ≠ gb364)); have n13_ := Aside0.mk ((by rw [hg]; exact Nat.ne_of_gt (blk_lt (g := gb363) (o := .cells #[.int .i64 0, .int .i64 0] 36 (0, 0)) (by (with_reducible repeat first | apply blk_drewN | apply blk_drew | apply blk_alloc); exact BK363.out)) : gb364 ≠ gb363)); clear HO_3; clear BK356; clear BK357; clear BK363; clear HB; have HO_3 := n0_; have BK356 := n1_; have BK357 := n2_; have BK363 := n3_; have HB := n4_; have BK364 := n5_; have GW364 := n6_; have GE364 := n7_; have NB356_364 := n8_; have NB364_356 := n9_; have NB357_364 := n10_; have NB364_357 := n11_; have NB363_364 := n12_; have NB364_363 := n13_; clear n0_ n1_ n2_ n3_ n4_ n5_ n6_ n7_ n8_ n9_ n10_ n11_ n12_ n13_; clear hb hbox hg; have hnb25 := NB363_356.out; have hnc25 := NB356_363.out; have hnb26 := NB363_357.out; have hnc26 := NB357_363.out; have hnb27 := NB363_364.out; have hnc27 := NB364_363.out; have hcz28_0 : w24.cell? ⟨gb363, 0, none⟩ = some (.int .i64 0) := (blk_cell BK363.out 0).trans rfl; have hcz28_1 : w24.cell? ⟨gb363, 1, none⟩ = some (.int .i64 0) := (blk_cell BK363.out 1).trans rfl; have hfz28_0 := blk_frozen BK363.out 0; have hfz28_1 := blk_frozen BK363.out 1; have hnb29 := NB364_356.out; have hnc29 := NB356_364.out; have hnb30 := NB364_357.out; have hnc30 := NB357_364.out; have hcz31_0 : w24.cell? ⟨gb364, 0, none⟩ = some (.int .i64 0) := (blk_cell BK364.out 0).trans rfl; have hcz31_1 : w24.cell? ⟨gb364, 1, none⟩ = some (.int .i64 0) := (blk_cell BK364.out 1).trans rfl; have hfz31_0 := blk_frozen BK364.out 0; have hfz31_1 := blk_frozen BK364.out 1))
     (try simp only [Act.put, List.setIfInBounds_toArray, List.set_cons_zero, List.set_cons_succ])
     go_cut [104] (fun v104 wc => ∃ (kq : Nat) (x104_14 : Bool), v104 = .bool x104_14 ∧ Aside0 (laws_FnCentres.j1 kq l0 t342 t343 t344 t347 t348 t355 x104_14 t351 t352 t353 t354 = some r) ∧ Aside0 (kq ≤ kj6) ∧ Aside0 (Kd.R k33 33 wc w.heap.size (fun _ => True) (.slice Ao9 t342.length co9) t342) ∧ Aside0 (wc.heap[gb356]? = some (.cells #[.int .i64 t351, .int .i64 t352] 36 (0, 0))) ∧ Aside0 (wc.heap[gb357]? = some (.cells #[.int .i64 t353, .int .i64 t354] 36 (0, 0))) ∧ Aside0 (wc.heap[gb363]? = some (.cells #[.int .i64 t358, .int .i64 t359] 36 (0, 0))) ∧ Aside0 (wc.heap[gb364]? = some (.cells #[.int .i64 t360, .int .i64 t361] 36 (0, 0))) ∧ Aside0 (Below w.heap.size w wc))
     case first =>
      have H := HC15.out
      clear HC15
      by_cases c32 : t351 = t358
      rotate_left
      ·rw [if_neg c32] at H
       have c32b0 : (t351 == t358) = false := beq_eq_false_iff_ne.mpr c32
       have c32b1 : (t351 != t358) = true := bne_iff_ne.mpr c32
       (first | rw [c32b0] | (simp only [i64_w, i32_w]; rw [c32b0]) | skip)
       as_aux_lemma =>
        have H' := Aside0.mk H
        clear H; have hnb73 := NB356_357.out; have hnc73 := NB357_356.out; have hnb74 := NB356_363.out; have hnc74 := NB363_356.out; have hnb75 := NB356_364.out; have hnc75 := NB364_356.out
        have hcz76_0 : w24.cell? ⟨gb356, 0, none⟩ = some (.int .i64 t351) := (blk_cell BK356.out 0).trans rfl
        have hcz76_1 : w24.cell? ⟨gb356, 1, none⟩ = some (.int .i64 t352) := (blk_cell BK356.out 1).trans rfl
        have hfz76_0 := blk_frozen BK356.out 0
        have hfz76_1 := blk_frozen BK356.out 1
        have hnb77 := NB363_357.out; have hnc77 := NB357_363.out; have hnb78 := NB363_364.out; have hnc78 := NB364_363.out
        have hcz79_0 : w24.cell? ⟨gb363, 0, none⟩ = some (.int .i64 0) := (blk_cell BK363.out 0).trans rfl
        have hcz79_1 : w24.cell? ⟨gb363, 1, none⟩ = some (.int .i64 0) := (blk_cell BK363.out 1).trans rfl
        have hfz79_0 := blk_frozen BK363.out 0
        have hfz79_1 := blk_frozen BK363.out 1
        go_wp2
        go_meet
        case rel => exact ⟨_, (true), (by first | rfl | (simp; done) | (simp [*]; done) | (simp [bne]; done)), H', ⟨by have := HJ6.out; first | omega | exact Nat.le_refl _⟩, ⟨by (with_reducible repeat (first | apply Kd.R_alloc | apply Kd.R_drewN | apply Kd.R_drew)); exact Kd.R_mono (Kd.R_far (p := ⟨gb364, 1, none⟩) (Kd.R_far (p := ⟨gb364, 0, none⟩) (Kd.R_far (p := ⟨gb363, 1, none⟩) (Kd.R_far (p := ⟨gb363, 0, none⟩) (Kd.R_types (Kd.R_types HO_3.out BK363.out (by decide)) BK364.out (by decide)) (fun _ hk => hk.1.2) (.int .i64 t358)) (fun _ hk => hk.1.2) (.int .i64 t359)) (fun _ hk => hk.2) (.int .i64 t360)) (fun _ hk => hk.2) (.int .i64 t361)) (fun _ hk => trivial)⟩, ⟨by (with_reducible repeat first | apply blk_drewN | apply blk_drew | apply blk_alloc); refine blk_far ?_ NB356_364.out _; (with_reducible repeat first | apply blk_drewN | apply blk_drew | apply blk_alloc); refine blk_far ?_ NB356_364.out _; (with_reducible repeat first | apply blk_drewN | apply blk_drew | apply blk_alloc); refine blk_far ?_ NB356_363.out _; (with_reducible repeat first | apply blk_drewN | apply blk_drew | apply blk_alloc); refine blk_far ?_ NB356_363.out _; (with_reducible repeat first | apply blk_drewN | apply blk_drew | apply blk_alloc); exact BK356.out⟩, ⟨by (with_reducible repeat first | apply blk_drewN | apply blk_drew | apply blk_alloc); refine blk_far ?_ NB357_364.out _; (with_reducible repeat first | apply blk_drewN | apply blk_drew | apply blk_alloc); refine blk_far ?_ NB357_364.out _; (with_reducible repeat first | apply blk_drewN | apply blk_drew | apply blk_alloc); refine blk_far ?_ NB357_363.out _; (with_reducible repeat first | apply blk_drewN | apply blk_drew | apply blk_alloc); refine blk_far ?_ NB357_363.out _; (with_reducible repeat first | apply blk_drewN | apply blk_drew | apply blk_alloc); exact BK357.out⟩, ⟨by (with_reducible repeat first | apply blk_drewN | apply blk_drew | apply blk_alloc); refine blk_far ?_ NB363_364.out _; (with_reducible repeat first | apply blk_drewN | apply blk_drew | apply blk_alloc); refine blk_far ?_ NB363_364.out _; (with_reducible repeat first | apply blk_drewN | apply blk_drew | apply blk_alloc); refine blk_put (cs := #[.int .i64 t358, .int .i64 0]) ?_ 1 _ rfl; (with_reducible repeat first | apply blk_drewN | apply blk_drew | apply blk_alloc); refine blk_put (cs := #[.int .i64 0, .int .i64 0]) ?_ 0 _ rfl; (with_reducible repeat first | apply blk_drewN | apply blk_drew | apply blk_alloc); exact BK363.out⟩, ⟨by (with_reducible repeat first | apply blk_drewN | apply blk_drew | apply blk_alloc); refine blk_put (cs := #[.int .i64 t360, .int .i64 0]) ?_ 1 _ rfl; (with_reducible repeat first | apply blk_drewN | apply blk_drew | apply blk_alloc); refine blk_put (cs := #[.int .i64 0, .int .i64 0]) ?_ 0 _ rfl; (with_reducible repeat first | apply blk_drewN | apply blk_drew | apply blk_alloc); refine blk_far ?_ NB364_363.out _; (with_reducible repeat first | apply blk_drewN | apply blk_drew | apply blk_alloc); refine blk_far ?_ NB364_363.out _; (with_reducible repeat first | apply blk_drewN | apply blk_drew | apply blk_alloc); exact BK364.out⟩, ⟨by repeat (first | (with_reducible first | exact HB.out | apply below_alloc | apply pw_below_drewN | apply below_drew1 | refine below_set ?_ GE356.out | refine below_set ?_ GE357.out | refine below_set ?_ GE363.out | refine below_set ?_ GE364.out) | exact HB.out)⟩⟩
      rw [if_pos c32] at H
      have c32b0 : (t351 == t358) = true := beq_iff_eq.mpr c32
      have c32b1 : (t351 != t358) = false := bne_eq_false_iff_eq.mpr c32
      clear c32
      (first | rw [c32b0] | (simp only [i64_w, i32_w]; rw [c32b0]) | skip)
      by_cases c33 : t352 = t359
      rotate_left
      ·rw [if_neg c33] at H
       have c33b0 : (t352 == t359) = false := beq_eq_false_iff_ne.mpr c33
       have c33b1 : (t352 != t359) = true := bne_iff_ne.mpr c33
       as_aux_lemma =>
        have H' := Aside0.mk H
        clear H; have hnb66 := NB356_357.out; have hnc66 := NB357_356.out; have hnb67 := NB356_363.out; have hnc67 := NB363_356.out; have hnb68 := NB356_364.out; have hnc68 := NB364_356.out
        have hcz69_0 : w24.cell? ⟨gb356, 0, none⟩ = some (.int .i64 t351) := (blk_cell BK356.out 0).trans rfl
        have hcz69_1 : w24.cell? ⟨gb356, 1, none⟩ = some (.int .i64 t352) := (blk_cell BK356.out 1).trans rfl
        have hfz69_0 := blk_frozen BK356.out 0
        have hfz69_1 := blk_frozen BK356.out 1
        have hnb70 := NB363_357.out; have hnc70 := NB357_363.out; have hnb71 := NB363_364.out; have hnc71 := NB364_363.out
        have hcz72_0 : w24.cell? ⟨gb363, 0, none⟩ = some (.int .i64 0) := (blk_cell BK363.out 0).trans rfl
        have hcz72_1 : w24.cell? ⟨gb363, 1, none⟩ = some (.int .i64 0) := (blk_cell BK363.out 1).trans rfl
        have hfz72_0 := blk_frozen BK363.out 0
        have hfz72_1 := blk_frozen BK363.out 1
        go_wp2
        go_meet
        case rel => exact ⟨_, (true), (by first | rfl | (simp; done) | (simp [*]; done) | (simp [bne]; done)), H', ⟨by have := HJ6.out; first | omega | exact Nat.le_refl _⟩, ⟨by (with_reducible repeat (first | apply Kd.R_alloc | apply Kd.R_drewN | apply Kd.R_drew)); exact Kd.R_mono (Kd.R_far (p := ⟨gb364, 1, none⟩) (Kd.R_far (p := ⟨gb364, 0, none⟩) (Kd.R_far (p := ⟨gb363, 1, none⟩) (Kd.R_far (p := ⟨gb363, 0, none⟩) (Kd.R_types (Kd.R_types HO_3.out BK363.out (by decide)) BK364.out (by decide)) (fun _ hk => hk.1.2) (.int .i64 t358)) (fun _ hk => hk.1.2) (.int .i64 t359)) (fun _ hk => hk.2) (.int .i64 t360)) (fun _ hk => hk.2) (.int .i64 t361)) (fun _ hk => trivial)⟩, ⟨by (with_reducible repeat first | apply blk_drewN | apply blk_drew | apply blk_alloc); refine blk_far ?_ NB356_364.out _; (with_reducible repeat first | apply blk_drewN | apply blk_drew | apply blk_alloc); refine blk_far ?_ NB356_364.out _; (with_reducible repeat first | apply blk_drewN | apply blk_drew | apply blk_alloc); refine blk_far ?_ NB356_363.out _; (with_reducible repeat first | apply blk_drewN | apply blk_drew | apply blk_alloc); refine blk_far ?_ NB356_363.out _; (with_reducible repeat first | apply blk_drewN | apply blk_drew | apply blk_alloc); exact BK356.out⟩, ⟨by (with_reducible repeat first | apply blk_drewN | apply blk_drew | apply blk_alloc); refine blk_far ?_ NB357_364.out _; (with_reducible repeat first | apply blk_drewN | apply blk_drew | apply blk_alloc); refine blk_far ?_ NB357_364.out _; (with_reducible repeat first | apply blk_drewN | apply blk_drew | apply blk_alloc); refine blk_far ?_ NB357_363.out _; (with_reducible repeat first | apply blk_drewN | apply blk_drew | apply blk_alloc); refine blk_far ?_ NB357_363.out _; (with_reducible repeat first | apply blk_drewN | apply blk_drew | apply blk_alloc); exact BK357.out⟩, ⟨by (with_reducible repeat first | apply blk_drewN | apply blk_drew | apply blk_alloc); refine blk_far ?_ NB363_364.out _; (with_reducible repeat first | apply blk_drewN | apply blk_drew | apply blk_alloc); refine blk_far ?_ NB363_364.out _; (with_reducible repeat first | apply blk_drewN | apply blk_drew | apply blk_alloc); refine blk_put (cs := #[.int .i64 t358, .int .i64 0]) ?_ 1 _ rfl; (with_reducible repeat first | apply blk_drewN | apply blk_drew | apply blk_alloc); refine blk_put (cs := #[.int .i64 0, .int .i64 0]) ?_ 0 _ rfl; (with_reducible repeat first | apply blk_drewN | apply blk_drew | apply blk_alloc); exact BK363.out⟩, ⟨by (with_reducible repeat first | apply blk_drewN | apply blk_drew | apply blk_alloc); refine blk_put (cs := #[.int .i64 t360, .int .i64 0]) ?_ 1 _ rfl; (with_reducible repeat first | apply blk_drewN | apply blk_drew | apply blk_alloc); refine blk_put (cs := #[.int .i64 0, .int .i64 0]) ?_ 0 _ rfl; (with_reducible repeat first | apply blk_drewN | apply blk_drew | apply blk_alloc); refine blk_far ?_ NB364_363.out _; (with_reducible repeat first | apply blk_drewN | apply blk_drew | apply blk_alloc); refine blk_far ?_ NB364_363.out _; (with_reducible repeat first | apply blk_drewN | apply blk_drew | apply blk_alloc); exact BK364.out⟩, ⟨by repeat (first | (with_reducible first | exact HB.out | apply below_alloc | apply pw_below_drewN | apply below_drew1 | refine below_set ?_ GE356.out | refine below_set ?_ GE357.out | refine below_set ?_ GE363.out | refine below_set ?_ GE364.out) | exact HB.out)⟩⟩
      rw [if_pos c33] at H
      have c33b0 : (t352 == t359) = true := beq_iff_eq.mpr c33
      have c33b1 : (t352 != t359) = false := bne_eq_false_iff_eq.mpr c33
      clear c33
      by_cases c34 : t353 = t360
      rotate_left
      ·rw [if_neg c34] at H
       have c34b0 : (t353 == t360) = false := beq_eq_false_iff_ne.mpr c34
       have c34b1 : (t353 != t360) = true := bne_iff_ne.mpr c34
       as_aux_lemma =>
        have H' := Aside0.mk H
        clear H; have hnb56 := NB356_357.out; have hnc56 := NB357_356.out; have hnb57 := NB356_363.out; have hnc57 := NB363_356.out; have hnb58 := NB356_364.out; have hnc58 := NB364_356.out
        have hcz59_0 : w24.cell? ⟨gb356, 0, none⟩ = some (.int .i64 t351) := (blk_cell BK356.out 0).trans rfl
        have hcz59_1 : w24.cell? ⟨gb356, 1, none⟩ = some (.int .i64 t352) := (blk_cell BK356.out 1).trans rfl
        have hfz59_0 := blk_frozen BK356.out 0
        have hfz59_1 := blk_frozen BK356.out 1
        have hnb60 := NB363_357.out; have hnc60 := NB357_363.out; have hnb61 := NB363_364.out; have hnc61 := NB364_363.out
        have hcz62_0 : w24.cell? ⟨gb363, 0, none⟩ = some (.int .i64 0) := (blk_cell BK363.out 0).trans rfl
        have hcz62_1 : w24.cell? ⟨gb363, 1, none⟩ = some (.int .i64 0) := (blk_cell BK363.out 1).trans rfl
        have hfz62_0 := blk_frozen BK363.out 0
        have hfz62_1 := blk_frozen BK363.out 1
        have hnb63 := NB357_364.out; have hnc63 := NB364_357.out
        have hcz64_0 : w24.cell? ⟨gb357, 0, none⟩ = some (.int .i64 t353) := (blk_cell BK357.out 0).trans rfl
        have hcz64_1 : w24.cell? ⟨gb357, 1, none⟩ = some (.int .i64 t354) := (blk_cell BK357.out 1).trans rfl
        have hfz64_0 := blk_frozen BK357.out 0
        have hfz64_1 := blk_frozen BK357.out 1
        have hcz65_0 : w24.cell? ⟨gb364, 0, none⟩ = some (.int .i64 0) := (blk_cell BK364.out 0).trans rfl
        have hcz65_1 : w24.cell? ⟨gb364, 1, none⟩ = some (.int .i64 0) := (blk_cell BK364.out 1).trans rfl
        have hfz65_0 := blk_frozen BK364.out 0
        have hfz65_1 := blk_frozen BK364.out 1
        go_wp2
        go_meet
        case rel => exact ⟨_, (true), (by first | rfl | (simp; done) | (simp [*]; done) | (simp [bne]; done)), H', ⟨by have := HJ6.out; first | omega | exact Nat.le_refl _⟩, ⟨by (with_reducible repeat (first | apply Kd.R_alloc | apply Kd.R_drewN | apply Kd.R_drew)); exact Kd.R_mono (Kd.R_far (p := ⟨gb364, 1, none⟩) (Kd.R_far (p := ⟨gb364, 0, none⟩) (Kd.R_far (p := ⟨gb363, 1, none⟩) (Kd.R_far (p := ⟨gb363, 0, none⟩) (Kd.R_types (Kd.R_types HO_3.out BK363.out (by decide)) BK364.out (by decide)) (fun _ hk => hk.1.2) (.int .i64 t358)) (fun _ hk => hk.1.2) (.int .i64 t359)) (fun _ hk => hk.2) (.int .i64 t360)) (fun _ hk => hk.2) (.int .i64 t361)) (fun _ hk => trivial)⟩, ⟨by (with_reducible repeat first | apply blk_drewN | apply blk_drew | apply blk_alloc); refine blk_far ?_ NB356_364.out _; (with_reducible repeat first | apply blk_drewN | apply blk_drew | apply blk_alloc); refine blk_far ?_ NB356_364.out _; (with_reducible repeat first | apply blk_drewN | apply blk_drew | apply blk_alloc); refine blk_far ?_ NB356_363.out _; (with_reducible repeat first | apply blk_drewN | apply blk_drew | apply blk_alloc); refine blk_far ?_ NB356_363.out _; (with_reducible repeat first | apply blk_drewN | apply blk_drew | apply blk_alloc); exact BK356.out⟩, ⟨by (with_reducible repeat first | apply blk_drewN | apply blk_drew | apply blk_alloc); refine blk_far ?_ NB357_364.out _; (with_reducible repeat first | apply blk_drewN | apply blk_drew | apply blk_alloc); refine blk_far ?_ NB357_364.out _; (with_reducible repeat first | apply blk_drewN | apply blk_drew | apply blk_alloc); refine blk_far ?_ NB357_363.out _; (with_reducible repeat first | apply blk_drewN | apply blk_drew | apply blk_alloc); refine blk_far ?_ NB357_363.out _; (with_reducible repeat first | apply blk_drewN | apply blk_drew | apply blk_alloc); exact BK357.out⟩, ⟨by (with_reducible repeat first | apply blk_drewN | apply blk_drew | apply blk_alloc); refine blk_far ?_ NB363_364.out _; (with_reducible repeat first | apply blk_drewN | apply blk_drew | apply blk_alloc); refine blk_far ?_ NB363_364.out _; (with_reducible repeat first | apply blk_drewN | apply blk_drew | apply blk_alloc); refine blk_put (cs := #[.int .i64 t358, .int .i64 0]) ?_ 1 _ rfl; (with_reducible repeat first | apply blk_drewN | apply blk_drew | apply blk_alloc); refine blk_put (cs := #[.int .i64 0, .int .i64 0]) ?_ 0 _ rfl; (with_reducible repeat first | apply blk_drewN | apply blk_drew | apply blk_alloc); exact BK363.out⟩, ⟨by (with_reducible repeat first | apply blk_drewN | apply blk_drew | apply blk_alloc); refine blk_put (cs := #[.int .i64 t360, .int .i64 0]) ?_ 1 _ rfl; (with_reducible repeat first | apply blk_drewN | apply blk_drew | apply blk_alloc); refine blk_put (cs := #[.int .i64 0, .int .i64 0]) ?_ 0 _ rfl; (with_reducible repeat first | apply blk_drewN | apply blk_drew | apply blk_alloc); refine blk_far ?_ NB364_363.out _; (with_reducible repeat first | apply blk_drewN | apply blk_drew | apply blk_alloc); refine blk_far ?_ NB364_363.out _; (with_reducible repeat first | apply blk_drewN | apply blk_drew | apply blk_alloc); exact BK364.out⟩, ⟨by repeat (first | (with_reducible first | exact HB.out | apply below_alloc | apply pw_below_drewN | apply below_drew1 | refine below_set ?_ GE356.out | refine below_set ?_ GE357.out | refine below_set ?_ GE363.out | refine below_set ?_ GE364.out) | exact HB.out)⟩⟩
      rw [if_pos c34] at H
      have c34b0 : (t353 == t360) = true := beq_iff_eq.mpr c34
      have c34b1 : (t353 != t360) = false := bne_eq_false_iff_eq.mpr c34
      clear c34
      by_cases c35 : t354 = t361
      rotate_left
      ·rw [if_neg c35] at H
       have c35b0 : (t354 == t361) = false := beq_eq_false_iff_ne.mpr c35
       have c35b1 : (t354 != t361) = true := bne_iff_ne.mpr c35
       as_aux_lemma =>
        have H' := Aside0.mk H
        clear H; have hnb46 := NB356_357.out; have hnc46 := NB357_356.out; have hnb47 := NB356_363.out; have hnc47 := NB363_356.out; have hnb48 := NB356_364.out; have hnc48 := NB364_356.out
        have hcz49_0 : w24.cell? ⟨gb356, 0, none⟩ = some (.int .i64 t351) := (blk_cell BK356.out 0).trans rfl
        have hcz49_1 : w24.cell? ⟨gb356, 1, none⟩ = some (.int .i64 t352) := (blk_cell BK356.out 1).trans rfl
        have hfz49_0 := blk_frozen BK356.out 0
        have hfz49_1 := blk_frozen BK356.out 1
        have hnb50 := NB363_357.out; have hnc50 := NB357_363.out; have hnb51 := NB363_364.out; have hnc51 := NB364_363.out
        have hcz52_0 : w24.cell? ⟨gb363, 0, none⟩ = some (.int .i64 0) := (blk_cell BK363.out 0).trans rfl
        have hcz52_1 : w24.cell? ⟨gb363, 1, none⟩ = some (.int .i64 0) := (blk_cell BK363.out 1).trans rfl
        have hfz52_0 := blk_frozen BK363.out 0
        have hfz52_1 := blk_frozen BK363.out 1
        have hnb53 := NB357_364.out; have hnc53 := NB364_357.out
        have hcz54_0 : w24.cell? ⟨gb357, 0, none⟩ = some (.int .i64 t353) := (blk_cell BK357.out 0).trans rfl
        have hcz54_1 : w24.cell? ⟨gb357, 1, none⟩ = some (.int .i64 t354) := (blk_cell BK357.out 1).trans rfl
        have hfz54_0 := blk_frozen BK357.out 0
        have hfz54_1 := blk_frozen BK357.out 1
        have hcz55_0 : w24.cell? ⟨gb364, 0, none⟩ = some (.int .i64 0) := (blk_cell BK364.out 0).trans rfl
        have hcz55_1 : w24.cell? ⟨gb364, 1, none⟩ = some (.int .i64 0) := (blk_cell BK364.out 1).trans rfl
        have hfz55_0 := blk_frozen BK364.out 0
        have hfz55_1 := blk_frozen BK364.out 1
        go_wp2
        go_meet
        case rel => exact ⟨_, (true), (by first | rfl | (simp; done) | (simp [*]; done) | (simp [bne]; done)), H', ⟨by have := HJ6.out; first | omega | exact Nat.le_refl _⟩, ⟨by (with_reducible repeat (first | apply Kd.R_alloc | apply Kd.R_drewN | apply Kd.R_drew)); exact Kd.R_mono (Kd.R_far (p := ⟨gb364, 1, none⟩) (Kd.R_far (p := ⟨gb364, 0, none⟩) (Kd.R_far (p := ⟨gb363, 1, none⟩) (Kd.R_far (p := ⟨gb363, 0, none⟩) (Kd.R_types (Kd.R_types HO_3.out BK363.out (by decide)) BK364.out (by decide)) (fun _ hk => hk.1.2) (.int .i64 t358)) (fun _ hk => hk.1.2) (.int .i64 t359)) (fun _ hk => hk.2) (.int .i64 t360)) (fun _ hk => hk.2) (.int .i64 t361)) (fun _ hk => trivial)⟩, ⟨by (with_reducible repeat first | apply blk_drewN | apply blk_drew | apply blk_alloc); refine blk_far ?_ NB356_364.out _; (with_reducible repeat first | apply blk_drewN | apply blk_drew | apply blk_alloc); refine blk_far ?_ NB356_364.out _; (with_reducible repeat first | apply blk_drewN | apply blk_drew | apply blk_alloc); refine blk_far ?_ NB356_363.out _; (with_reducible repeat first | apply blk_drewN | apply blk_drew | apply blk_alloc); refine blk_far ?_ NB356_363.out _; (with_reducible repeat first | apply blk_drewN | apply blk_drew | apply blk_alloc); exact BK356.out⟩, ⟨by (with_reducible repeat first | apply blk_drewN | apply blk_drew | apply blk_alloc); refine blk_far ?_ NB357_364.out _; (with_reducible repeat first | apply blk_drewN | apply blk_drew | apply blk_alloc); refine blk_far ?_ NB357_364.out _; (with_reducible repeat first | apply blk_drewN | apply blk_drew | apply blk_alloc); refine blk_far ?_ NB357_363.out _; (with_reducible repeat first | apply blk_drewN | apply blk_drew | apply blk_alloc); refine blk_far ?_ NB357_363.out _; (with_reducible repeat first | apply blk_drewN | apply blk_drew | apply blk_alloc); exact BK357.out⟩, ⟨by (with_reducible repeat first | apply blk_drewN | apply blk_drew | apply blk_alloc); refine blk_far ?_ NB363_364.out _; (with_reducible repeat first | apply blk_drewN | apply blk_drew | apply blk_alloc); refine blk_far ?_ NB363_364.out _; (with_reducible repeat first | apply blk_drewN | apply blk_drew | apply blk_alloc); refine blk_put (cs := #[.int .i64 t358, .int .i64 0]) ?_ 1 _ rfl; (with_reducible repeat first | apply blk_drewN | apply blk_drew | apply blk_alloc); refine blk_put (cs := #[.int .i64 0, .int .i64 0]) ?_ 0 _ rfl; (with_reducible repeat first | apply blk_drewN | apply blk_drew | apply blk_alloc); exact BK363.out⟩, ⟨by (with_reducible repeat first | apply blk_drewN | apply blk_drew | apply blk_alloc); refine blk_put (cs := #[.int .i64 t360, .int .i64 0]) ?_ 1 _ rfl; (with_reducible repeat first | apply blk_drewN | apply blk_drew | apply blk_alloc); refine blk_put (cs := #[.int .i64 0, .int .i64 0]) ?_ 0 _ rfl; (with_reducible repeat first | apply blk_drewN | apply blk_drew | apply blk_alloc); refine blk_far ?_ NB364_363.out _; (with_reducible repeat first | apply blk_drewN | apply blk_drew | apply blk_alloc); refine blk_far ?_ NB364_363.out _; (with_reducible repeat first | apply blk_drewN | apply blk_drew | apply blk_alloc); exact BK364.out⟩, ⟨by repeat (first | (with_reducible first | exact HB.out | apply below_alloc | apply pw_below_drewN | apply below_drew1 | refine below_set ?_ GE356.out | refine below_set ?_ GE357.out | refine below_set ?_ GE363.out | refine below_set ?_ GE364.out) | exact HB.out)⟩⟩
      rw [if_pos c35] at H
      have c35b0 : (t354 == t361) = true := beq_iff_eq.mpr c35
      have c35b1 : (t354 != t361) = false := bne_eq_false_iff_eq.mpr c35
      clear c35
      as_aux_lemma =>
       have H' := Aside0.mk H
       clear H; have hnb36 := NB356_357.out; have hnc36 := NB357_356.out; have hnb37 := NB356_363.out; have hnc37 := NB363_356.out; have hnb38 := NB356_364.out; have hnc38 := NB364_356.out
       have hcz39_0 : w24.cell? ⟨gb356, 0, none⟩ = some (.int .i64 t351) := (blk_cell BK356.out 0).trans rfl
       have hcz39_1 : w24.cell? ⟨gb356, 1, none⟩ = some (.int .i64 t352) := (blk_cell BK356.out 1).trans rfl
       have hfz39_0 := blk_frozen BK356.out 0
       have hfz39_1 := blk_frozen BK356.out 1
       have hnb40 := NB363_357.out; have hnc40 := NB357_363.out; have hnb41 := NB363_364.out; have hnc41 := NB364_363.out
       have hcz42_0 : w24.cell? ⟨gb363, 0, none⟩ = some (.int .i64 0) := (blk_cell BK363.out 0).trans rfl
       have hcz42_1 : w24.cell? ⟨gb363, 1, none⟩ = some (.int .i64 0) := (blk_cell BK363.out 1).trans rfl
       have hfz42_0 := blk_frozen BK363.out 0
       have hfz42_1 := blk_frozen BK363.out 1
       have hnb43 := NB357_364.out; have hnc43 := NB364_357.out
       have hcz44_0 : w24.cell? ⟨gb357, 0, none⟩ = some (.int .i64 t353) := (blk_cell BK357.out 0).trans rfl
       have hcz44_1 : w24.cell? ⟨gb357, 1, none⟩ = some (.int .i64 t354) := (blk_cell BK357.out 1).trans rfl
       have hfz44_0 := blk_frozen BK357.out 0
       have hfz44_1 := blk_frozen BK357.out 1
       have hcz45_0 : w24.cell? ⟨gb364, 0, none⟩ = some (.int .i64 0) := (blk_cell BK364.out 0).trans rfl
       have hcz45_1 : w24.cell? ⟨gb364, 1, none⟩ = some (.int .i64 0) := (blk_cell BK364.out 1).trans rfl
       have hfz45_0 := blk_frozen BK364.out 0
       have hfz45_1 := blk_frozen BK364.out 1
       go_wp2
       go_meet
       case rel => exact ⟨_, ((t355 != t362)), (by first | rfl | (simp; done) | (simp [*]; done) | (simp [bne]; done)), H', ⟨by have := HJ6.out; first | omega | exact Nat.le_refl _⟩, ⟨by (with_reducible repeat (first | apply Kd.R_alloc | apply Kd.R_drewN | apply Kd.R_drew)); exact Kd.R_mono (Kd.R_far (p := ⟨gb364, 1, none⟩) (Kd.R_far (p := ⟨gb364, 0, none⟩) (Kd.R_far (p := ⟨gb363, 1, none⟩) (Kd.R_far (p := ⟨gb363, 0, none⟩) (Kd.R_types (Kd.R_types HO_3.out BK363.out (by decide)) BK364.out (by decide)) (fun _ hk => hk.1.2) (.int .i64 t358)) (fun _ hk => hk.1.2) (.int .i64 t359)) (fun _ hk => hk.2) (.int .i64 t360)) (fun _ hk => hk.2) (.int .i64 t361)) (fun _ hk => trivial)⟩, ⟨by (with_reducible repeat first | apply blk_drewN | apply blk_drew | apply blk_alloc); refine blk_far ?_ NB356_364.out _; (with_reducible repeat first | apply blk_drewN | apply blk_drew | apply blk_alloc); refine blk_far ?_ NB356_364.out _; (with_reducible repeat first | apply blk_drewN | apply blk_drew | apply blk_alloc); refine blk_far ?_ NB356_363.out _; (with_reducible repeat first | apply blk_drewN | apply blk_drew | apply blk_alloc); refine blk_far ?_ NB356_363.out _; (with_reducible repeat first | apply blk_drewN | apply blk_drew | apply blk_alloc); exact BK356.out⟩, ⟨by (with_reducible repeat first | apply blk_drewN | apply blk_drew | apply blk_alloc); refine blk_far ?_ NB357_364.out _; (with_reducible repeat first | apply blk_drewN | apply blk_drew | apply blk_alloc); refine blk_far ?_ NB357_364.out _; (with_reducible repeat first | apply blk_drewN | apply blk_drew | apply blk_alloc); refine blk_far ?_ NB357_363.out _; (with_reducible repeat first | apply blk_drewN | apply blk_drew | apply blk_alloc); refine blk_far ?_ NB357_363.out _; (with_reducible repeat first | apply blk_drewN | apply blk_drew | apply blk_alloc); exact BK357.out⟩, ⟨by (with_reducible repeat first | apply blk_drewN | apply blk_drew | apply blk_alloc); refine blk_far ?_ NB363_364.out _; (with_reducible repeat first | apply blk_drewN | apply blk_drew | apply blk_alloc); refine blk_far ?_ NB363_364.out _; (with_reducible repeat first | apply blk_drewN | apply blk_drew | apply blk_alloc); refine blk_put (cs := #[.int .i64 t358, .int .i64 0]) ?_ 1 _ rfl; (with_reducible repeat first | apply blk_drewN | apply blk_drew | apply blk_alloc); refine blk_put (cs := #[.int .i64 0, .int .i64 0]) ?_ 0 _ rfl; (with_reducible repeat first | apply blk_drewN | apply blk_drew | apply blk_alloc); exact BK363.out⟩, ⟨by (with_reducible repeat first | apply blk_drewN | apply blk_drew | apply blk_alloc); refine blk_put (cs := #[.int .i64 t360, .int .i64 0]) ?_ 1 _ rfl; (with_reducible repeat first | apply blk_drewN | apply blk_drew | apply blk_alloc); refine blk_put (cs := #[.int .i64 0, .int .i64 0]) ?_ 0 _ rfl; (with_reducible repeat first | apply blk_drewN | apply blk_drew | apply blk_alloc); refine blk_far ?_ NB364_363.out _; (with_reducible repeat first | apply blk_drewN | apply blk_drew | apply blk_alloc); refine blk_far ?_ NB364_363.out _; (with_reducible repeat first | apply blk_drewN | apply blk_drew | apply blk_alloc); exact BK364.out⟩, ⟨by repeat (first | (with_reducible first | exact HB.out | apply below_alloc | apply pw_below_drewN | apply below_drew1 | refine below_set ?_ GE356.out | refine below_set ?_ GE357.out | refine below_set ?_ GE363.out | refine below_set ?_ GE364.out) | exact HB.out)⟩⟩
     case rest =>
      clear HC15
      obtain ⟨kq, x104_14, rfl, HA, HJ14, HO_3, BK356, BK357, BK363, BK364, HB⟩ := hcut
      cases kq with
      | zero => exact absurd HA.out (by simp [laws_FnCentres.j1])
      | succ kj14 =>
       have H := HA.out
       clear HA
       simp only [laws_FnCentres.j1] at H
       by_cases c80 : x104_14 = true
       ·subst c80
        have H1 : (some false) = some r := by rw [if_pos rfl] at H; exact H
        clear H
        have H := H1
        clear H1
        as_aux_lemma =>
         obtain rfl := Option.some.inj H
         go_wp2
         go_ret
         exact ⟨by first | rfl | (simp [errW_none, errW_some] <;> rfl) | (simp [*, errW_none, errW_some] <;> rfl), by repeat (first | (with_reducible first | exact HB.out | apply below_alloc | apply pw_below_drewN | apply below_drew1 | refine below_set ?_ GE356.out | refine below_set ?_ GE357.out | refine below_set ?_ GE363.out | refine below_set ?_ GE364.out) | exact HB.out)⟩
       replace c80 := Bool.eq_false_iff.mpr c80
       subst c80
       have H1 : ((impl_WeightOf.f kj14 t342).bind fun bt365 => ((spec_WeightOf.f kj14 t342).bind fun bt367 => (if bt365.1 = bt367.1 then (if (bt365.2 != bt367.2) = true then (laws_FnCentres.j2 kj14 l0 t342 t343 t344 t347 t348 t355 bt365.1 bt365.2 true t351 t352 t353 t354) else ((impl_IsRow.f t342).bind fun t369 => (laws_FnCentres.j2 kj14 l0 t342 t343 t344 t347 t348 t355 bt365.1 bt365.2 (bt365.2 != t369) t351 t352 t353 t354))) else (laws_FnCentres.j2 kj14 l0 t342 t343 t344 t347 t348 t355 bt365.1 bt365.2 true t351 t352 t353 t354)))) = some r := by rw [if_neg (show ¬ (false = true) by decide)] at H; exact H
       clear H
       have H := H1
       clear H1
       replace H := Option.bind_eq_some_iff.mp H
       obtain ⟨⟨t365, t366⟩, A810, H⟩ := H
       replace H : ((spec_WeightOf.f kj14 t342).bind fun bt367 => (if t365 = bt367.1 then (if (t366 != bt367.2) = true then (laws_FnCentres.j2 kj14 l0 t342 t343 t344 t347 t348 t355 t365 t366 true t351 t352 t353 t354) else ((impl_IsRow.f t342).bind fun t369 => (laws_FnCentres.j2 kj14 l0 t342 t343 t344 t347 t348 t355 t365 t366 (t366 != t369) t351 t352 t353 t354))) else (laws_FnCentres.j2 kj14 l0 t342 t343 t344 t347 t348 t355 t365 t366 true t351 t352 t353 t354))) = some r := H
       have A81 := Aside0.mk A810
       clear A810
       replace H := Option.bind_eq_some_iff.mp H
       obtain ⟨⟨t367, t368⟩, A820, H⟩ := H
       replace H : (if t365 = t367 then (if (t366 != t368) = true then (laws_FnCentres.j2 kj14 l0 t342 t343 t344 t347 t348 t355 t365 t366 true t351 t352 t353 t354) else ((impl_IsRow.f t342).bind fun t369 => (laws_FnCentres.j2 kj14 l0 t342 t343 t344 t347 t348 t355 t365 t366 (t366 != t369) t351 t352 t353 t354))) else (laws_FnCentres.j2 kj14 l0 t342 t343 t344 t347 t348 t355 t365 t366 true t351 t352 t353 t354)) = some r := H
       have A82 := Aside0.mk A820
       clear A820
       have HC83 := Aside0.mk H
       clear H
       as_aux_lemma =>
        go_upto_region 14 with (first | ((with_reducible refine gate_callee (f := 19) rfl ?_); refine goesL_ (some 107) rfl rfl Try.func19 (by kernel_rfl) rfl #[.slice Ao9 t342.length co9] rfl (by (try simp only [List.map_toArray, List.map_cons, List.map_nil]); first | done | rfl | (simp only [List.length_drop, List.length_take]; rfl)) ?_; (with_reducible refine (impl_WeightOf.calls kj14 _ _ t342 t365 t366 _ ?side1 ?side2 A81.out).mono ?_); (case side1 => repeat (first | exact (Kd.R_reads' HO_3.out).2.2 | (with_reducible refine Kd.C_alloc ?_ _) | (with_reducible refine Kd.C_drewN ?_ _) | (with_reducible refine Kd.C_drew ?_))); (case side2 => exact (Kd.R_reads' HO_3.out).2.1); rintro e w84 ⟨rfl, hb⟩; refine ⟨_, rfl, ?_⟩; have n0_ := Aside0.mk (Kd.R_below (by (with_reducible repeat (first | apply Kd.R_alloc | apply Kd.R_drewN | apply Kd.R_drew)); exact HO_3.out) hb); have n1_ := Aside0.mk (blk_below (g := gb356) (o := .cells #[.int .i64 t351, .int .i64 t352] 36 (0, 0)) (by (with_reducible repeat first | apply blk_drewN | apply blk_drew | apply blk_alloc); exact BK356.out) hb); have n2_ := Aside0.mk (blk_below (g := gb357) (o := .cells #[.int .i64 t353, .int .i64 t354] 36 (0, 0)) (by (with_reducible repeat first | apply blk_drewN | apply blk_drew | apply blk_alloc); exact BK357.out) hb); have n3_ := Aside0.mk (blk_below (g := gb363) (o := .cells #[.int .i64 t358, .int .i64 t359] 36 (0, 0)) (by (with_reducible repeat first | apply blk_drewN | apply blk_drew | apply blk_alloc); exact BK363.out) hb); have n4_ := Aside0.mk (blk_below (g := gb364) (o := .cells #[.int .i64 t360, .int .i64 t361] 36 (0, 0)) (by (with_reducible repeat first | apply blk_drewN | apply blk_drew | apply blk_alloc); exact BK364.out) hb); have n5_ := Aside0.mk (below_step (by repeat (first | (with_reducible first | exact HB.out | apply below_alloc | apply pw_below_drewN | apply below_drew1 | refine below_set ?_ GE356.out | refine below_set ?_ GE357.out | refine below_set ?_ GE363.out | refine below_set ?_ GE364.out) | exact HB.out)) hb); clear HO_3; clear BK356; clear BK357; clear BK363; clear BK364; clear HB; have HO_3 := n0_; have BK356 := n1_; have BK357 := n2_; have BK363 := n3_; have BK364 := n4_; have HB := n5_; clear n0_ n1_ n2_ n3_ n4_ n5_; (try clear hb); (try clear hb2); (try clear hk); (try clear hi)) | ((with_reducible refine gate_callee (f := 20) rfl ?_); refine goesL_ (some 112) rfl rfl Try.func20 (by kernel_rfl) rfl #[.slice Ao9 t342.length co9] rfl (by (try simp only [List.map_toArray, List.map_cons, List.map_nil]); first | done | rfl | (simp only [List.length_drop, List.length_take]; rfl)) ?_; (with_reducible refine (spec_WeightOf.calls kj14 _ _ t342 t367 t368 _ ?side1 ?side2 A82.out).mono ?_); (case side1 => repeat (first | exact (Kd.R_reads' HO_3.out).2.2 | (with_reducible refine Kd.C_alloc ?_ _) | (with_reducible refine Kd.C_drewN ?_ _) | (with_reducible refine Kd.C_drew ?_))); (case side2 => exact (Kd.R_reads' HO_3.out).2.1); rintro e w' ⟨rfl, ⟨nd, rfl⟩⟩; refine ⟨_, rfl, ?_⟩))
        (try simp only [Act.put, List.setIfInBounds_toArray, List.set_cons_zero, List.set_cons_succ])
        go_cut [128] (fun v128 wc => ∃ (kq : Nat) (x128_82 : Bool), v128 = .bool x128_82 ∧ Aside0 (laws_FnCentres.j2 kq l0 t342 t343 t344 t347 t348 t355 t365 t366 x128_82 t351 t352 t353 t354 = some r) ∧ Aside0 (kq ≤ kj14) ∧ Aside0 (Kd.R k33 33 wc w.heap.size (fun _ => True) (.slice Ao9 t342.length co9) t342) ∧ Aside0 (wc.heap[gb356]? = some (.cells #[.int .i64 t351, .int .i64 t352] 36 (0, 0))) ∧ Aside0 (wc.heap[gb357]? = some (.cells #[.int .i64 t353, .int .i64 t354] 36 (0, 0))) ∧ Aside0 (wc.heap[gb363]? = some (.cells #[.int .i64 t358, .int .i64 t359] 36 (0, 0))) ∧ Aside0 (wc.heap[gb364]? = some (.cells #[.int .i64 t360, .int .i64 t361] 36 (0, 0))) ∧ Aside0 (Below w.heap.size w wc))
        case first =>
         have H := HC83.out
         clear HC83
         by_cases c85 : t365 = t367
         rotate_left
         ·rw [if_neg c85] at H
          have c85b0 : (t365 == t367) = false := beq_eq_false_iff_ne.mpr c85
          have c85b1 : (t365 != t367) = true := bne_iff_ne.mpr c85
          (first | rw [c85b0] | (simp only [i64_w, i32_w]; rw [c85b0]) | skip)
          as_aux_lemma =>
           have H' := Aside0.mk H
           clear H
           go_wp2
           go_meet
           case rel => exact ⟨_, (true), (by first | rfl | (simp; done) | (simp [*]; done) | (simp [bne]; done)), H', ⟨by have := HJ6.out; have := HJ14.out; first | omega | exact Nat.le_refl _⟩, ⟨by (with_reducible repeat (first | apply Kd.R_alloc | apply Kd.R_drewN | apply Kd.R_drew)); exact HO_3.out⟩, ⟨by (with_reducible repeat first | apply blk_drewN | apply blk_drew | apply blk_alloc); exact BK356.out⟩, ⟨by (with_reducible repeat first | apply blk_drewN | apply blk_drew | apply blk_alloc); exact BK357.out⟩, ⟨by (with_reducible repeat first | apply blk_drewN | apply blk_drew | apply blk_alloc); exact BK363.out⟩, ⟨by (with_reducible repeat first | apply blk_drewN | apply blk_drew | apply blk_alloc); exact BK364.out⟩, ⟨by repeat (first | (with_reducible first | exact HB.out | apply below_alloc | apply pw_below_drewN | apply below_drew1 | refine below_set ?_ GE356.out | refine below_set ?_ GE357.out | refine below_set ?_ GE363.out | refine below_set ?_ GE364.out) | exact HB.out)⟩⟩
         rw [if_pos c85] at H
         have c85b0 : (t365 == t367) = true := beq_iff_eq.mpr c85
         have c85b1 : (t365 != t367) = false := bne_eq_false_iff_eq.mpr c85
         clear c85
         (first | rw [c85b0] | (simp only [i64_w, i32_w]; rw [c85b0]) | skip)
         by_cases c86 : (t366 != t368) = true
         ·rw [if_pos c86] at H
          have c86b0 : (t366 != t368) = true := c86
          (try (have c86b1 : decide (t366 = t368) = false := by simpa using c86))
          (try (have c86b2 : (t366 == t368) = false := by simpa using c86))
          (try (have c86b3 : ¬ (t366 = t368) := by simpa using c86))
          clear c86
          as_aux_lemma =>
           have H' := Aside0.mk H
           clear H
           go_wp2
           go_meet
           case rel => exact ⟨_, (true), (by first | rfl | (simp; done) | (simp [*]; done) | (simp [bne]; done)), H', ⟨by have := HJ6.out; have := HJ14.out; first | omega | exact Nat.le_refl _⟩, ⟨by (with_reducible repeat (first | apply Kd.R_alloc | apply Kd.R_drewN | apply Kd.R_drew)); exact HO_3.out⟩, ⟨by (with_reducible repeat first | apply blk_drewN | apply blk_drew | apply blk_alloc); exact BK356.out⟩, ⟨by (with_reducible repeat first | apply blk_drewN | apply blk_drew | apply blk_alloc); exact BK357.out⟩, ⟨by (with_reducible repeat first | apply blk_drewN | apply blk_drew | apply blk_alloc); exact BK363.out⟩, ⟨by (with_reducible repeat first | apply blk_drewN | apply blk_drew | apply blk_alloc); exact BK364.out⟩, ⟨by repeat (first | (with_reducible first | exact HB.out | apply below_alloc | apply pw_below_drewN | apply below_drew1 | refine below_set ?_ GE356.out | refine below_set ?_ GE357.out | refine below_set ?_ GE363.out | refine below_set ?_ GE364.out) | exact HB.out)⟩⟩
         rw [if_neg c86] at H
         have c86b0 : (t366 != t368) = false := by simpa using c86
         (try (have c86b1 : decide (t366 = t368) = true := by simpa using c86))
         (try (have c86b2 : (t366 == t368) = true := by simpa using c86))
         clear c86
         replace H := Option.bind_eq_some_iff.mp H
         obtain ⟨t369, A870, H⟩ := H
         replace H : (laws_FnCentres.j2 kj14 l0 t342 t343 t344 t347 t348 t355 t365 t366 (t366 != t369) t351 t352 t353 t354) = some r := H
         have A87 := Aside0.mk A870
         clear A870
         as_aux_lemma =>
          have H' := Aside0.mk H
          clear H
          go_wp2_with (first | (go_at_call 21; (with_reducible refine (impl_IsRow.calls _ _ t342 t369 _ ?side1 ?side2 A87.out).mono ?_); (case side1 => repeat (first | exact (Kd.R_reads' HO_3.out).2.2 | (with_reducible refine Kd.C_alloc ?_ _) | (with_reducible refine Kd.C_drewN ?_ _) | (with_reducible refine Kd.C_drew ?_))); (case side2 => exact (Kd.R_reads' HO_3.out).2.1); rintro e w88 ⟨rfl, hb⟩; have n0_ := Aside0.mk (Kd.R_below (by (with_reducible repeat (first | apply Kd.R_alloc | apply Kd.R_drewN | apply Kd.R_drew)); exact HO_3.out) hb); have n1_ := Aside0.mk (blk_below (g := gb356) (o := .cells #[.int .i64 t351, .int .i64 t352] 36 (0, 0)) (by (with_reducible repeat first | apply blk_drewN | apply blk_drew | apply blk_alloc); exact BK356.out) hb); have n2_ := Aside0.mk (blk_below (g := gb357) (o := .cells #[.int .i64 t353, .int .i64 t354] 36 (0, 0)) (by (with_reducible repeat first | apply blk_drewN | apply blk_drew | apply blk_alloc); exact BK357.out) hb); have n3_ := Aside0.mk (blk_below (g := gb363) (o := .cells #[.int .i64 t358, .int .i64 t359] 36 (0, 0)) (by (with_reducible repeat first | apply blk_drewN | apply blk_drew | apply blk_alloc); exact BK363.out) hb); have n4_ := Aside0.mk (blk_below (g := gb364) (o := .cells #[.int .i64 t360, .int .i64 t361] 36 (0, 0)) (by (with_reducible repeat first | apply blk_drewN | apply blk_drew | apply blk_alloc); exact BK364.out) hb); have n5_ := Aside0.mk (below_step (by repeat (first | (with_reducible first | exact HB.out | apply below_alloc | apply pw_below_drewN | apply below_drew1 | refine below_set ?_ GE356.out | refine below_set ?_ GE357.out | refine below_set ?_ GE363.out | refine below_set ?_ GE364.out) | exact HB.out)) hb); clear HO_3; clear BK356; clear BK357; clear BK363; clear BK364; clear HB; have HO_3 := n0_; have BK356 := n1_; have BK357 := n2_; have BK363 := n3_; have BK364 := n4_; have HB := n5_; clear n0_ n1_ n2_ n3_ n4_ n5_; (try clear hb); (try clear hb2); (try clear hk); (try clear hi)))
          go_meet
          case rel => exact ⟨_, ((t366 != t369)), (by first | rfl | (simp; done) | (simp [*]; done) | (simp [bne]; done)), H', ⟨by have := HJ6.out; have := HJ14.out; first | omega | exact Nat.le_refl _⟩, ⟨by (with_reducible repeat (first | apply Kd.R_alloc | apply Kd.R_drewN | apply Kd.R_drew)); exact HO_3.out⟩, ⟨by (with_reducible repeat first | apply blk_drewN | apply blk_drew | apply blk_alloc); exact BK356.out⟩, ⟨by (with_reducible repeat first | apply blk_drewN | apply blk_drew | apply blk_alloc); exact BK357.out⟩, ⟨by (with_reducible repeat first | apply blk_drewN | apply blk_drew | apply blk_alloc); exact BK363.out⟩, ⟨by (with_reducible repeat first | apply blk_drewN | apply blk_drew | apply blk_alloc); exact BK364.out⟩, ⟨by repeat (first | (with_reducible first | exact HB.out | apply below_alloc | apply pw_below_drewN | apply below_drew1 | refine below_set ?_ GE356.out | refine below_set ?_ GE357.out | refine below_set ?_ GE363.out | refine below_set ?_ GE364.out) | exact HB.out)⟩⟩
        case rest =>
         clear HC83
         obtain ⟨kq, x128_82, rfl, HA, HJ82, HO_3, BK356, BK357, BK363, BK364, HB⟩ := hcut
         cases kq with
         | zero => exact absurd HA.out (by simp [laws_FnCentres.j2])
         | succ kj82 =>
          have H := HA.out
          clear HA
          simp only [laws_FnCentres.j2] at H
          by_cases c89 : x128_82 = true
          ·subst c89
           have H1 : (some false) = some r := by rw [if_pos rfl] at H; exact H
           clear H
           have H := H1
           clear H1
           as_aux_lemma =>
            obtain rfl := Option.some.inj H
            go_wp2
            go_ret
            exact ⟨by first | rfl | (simp [errW_none, errW_some] <;> rfl) | (simp [*, errW_none, errW_some] <;> rfl), by repeat (first | (with_reducible first | exact HB.out | apply below_alloc | apply pw_below_drewN | apply below_drew1 | refine below_set ?_ GE356.out | refine below_set ?_ GE357.out | refine below_set ?_ GE363.out | refine below_set ?_ GE364.out) | exact HB.out)⟩
          replace c89 := Bool.eq_false_iff.mpr c89
          subst c89
          have H1 : ((impl_CentreOf.f kj82 t342).bind fun bt370 => ((spec_CentreOf.f kj82 t342).bind fun bt374 => (if bt370.1 = bt374.1 then (if bt370.2.1 = bt374.2.1 then (if (bt370.2.2 != bt374.2.2) = true then (laws_FnCentres.j3 kj82 l0 t342 t343 t344 t347 t348 t355 t365 t366 bt370.2.2 true t351 t352 t353 t354 bt370.1 bt370.2.1) else (if t366 = true then (laws_FnCentres.j3 kj82 l0 t342 t343 t344 t347 t348 t355 t365 t366 bt370.2.2 (bt370.2.2 != (decide ((t342.length : Int) > 0))) t351 t352 t353 t354 bt370.1 bt370.2.1) else (laws_FnCentres.j3 kj82 l0 t342 t343 t344 t347 t348 t355 t365 t366 bt370.2.2 (bt370.2.2 != false) t351 t352 t353 t354 bt370.1 bt370.2.1))) else (laws_FnCentres.j3 kj82 l0 t342 t343 t344 t347 t348 t355 t365 t366 bt370.2.2 true t351 t352 t353 t354 bt370.1 bt370.2.1)) else (laws_FnCentres.j3 kj82 l0 t342 t343 t344 t347 t348 t355 t365 t366 bt370.2.2 true t351 t352 t353 t354 bt370.1 bt370.2.1)))) = some r := by rw [if_neg (show ¬ (false = true) by decide)] at H; exact H
          clear H
          have H := H1
          clear H1
          replace H := Option.bind_eq_some_iff.mp H
          obtain ⟨⟨t370, t371, t372⟩, A900, H⟩ := H
          replace H : ((spec_CentreOf.f kj82 t342).bind fun bt374 => (if t370 = bt374.1 then (if t371 = bt374.2.1 then (if (t372 != bt374.2.2) = true then (laws_FnCentres.j3 kj82 l0 t342 t343 t344 t347 t348 t355 t365 t366 t372 true t351 t352 t353 t354 t370 t371) else (if t366 = true then (laws_FnCentres.j3 kj82 l0 t342 t343 t344 t347 t348 t355 t365 t366 t372 (t372 != (decide ((t342.length : Int) > 0))) t351 t352 t353 t354 t370 t371) else (laws_FnCentres.j3 kj82 l0 t342 t343 t344 t347 t348 t355 t365 t366 t372 (t372 != false) t351 t352 t353 t354 t370 t371))) else (laws_FnCentres.j3 kj82 l0 t342 t343 t344 t347 t348 t355 t365 t366 t372 true t351 t352 t353 t354 t370 t371)) else (laws_FnCentres.j3 kj82 l0 t342 t343 t344 t347 t348 t355 t365 t366 t372 true t351 t352 t353 t354 t370 t371))) = some r := H
          have A90 := Aside0.mk A900
          clear A900
          replace H := Option.bind_eq_some_iff.mp H
          obtain ⟨⟨t374, t375, t376⟩, A910, H⟩ := H
          replace H : (if t370 = t374 then (if t371 = t375 then (if (t372 != t376) = true then (laws_FnCentres.j3 kj82 l0 t342 t343 t344 t347 t348 t355 t365 t366 t372 true t351 t352 t353 t354 t370 t371) else (if t366 = true then (laws_FnCentres.j3 kj82 l0 t342 t343 t344 t347 t348 t355 t365 t366 t372 (t372 != (decide ((t342.length : Int) > 0))) t351 t352 t353 t354 t370 t371) else (laws_FnCentres.j3 kj82 l0 t342 t343 t344 t347 t348 t355 t365 t366 t372 (t372 != false) t351 t352 t353 t354 t370 t371))) else (laws_FnCentres.j3 kj82 l0 t342 t343 t344 t347 t348 t355 t365 t366 t372 true t351 t352 t353 t354 t370 t371)) else (laws_FnCentres.j3 kj82 l0 t342 t343 t344 t347 t348 t355 t365 t366 t372 true t351 t352 t353 t354 t370 t371)) = some r := H
          have A91 := Aside0.mk A910
          clear A910
          have HC92 := Aside0.mk H
          clear H
          as_aux_lemma =>
           go_upto_region 18 with (first | ((with_reducible refine gate_callee (f := 22) rfl ?_); refine goesL_ (some 131) rfl rfl Try.func22 (by kernel_rfl) rfl #[.slice Ao9 t342.length co9] rfl (by (try simp only [List.map_toArray, List.map_cons, List.map_nil]); first | done | rfl | (simp only [List.length_drop, List.length_take]; rfl)) ?_; (with_reducible refine (impl_CentreOf.calls kj82 _ _ t342 t370 t371 t372 _ ?side1 ?side2 A90.out).mono ?_); (case side1 => repeat (first | exact (Kd.R_reads' HO_3.out).2.2 | (with_reducible refine Kd.C_alloc ?_ _) | (with_reducible refine Kd.C_drewN ?_ _) | (with_reducible refine Kd.C_drew ?_))); (case side2 => exact (Kd.R_reads' HO_3.out).2.1); rintro e w93 ⟨rfl, hb⟩; refine ⟨_, rfl, ?_⟩; have n0_ := Aside0.mk (Kd.R_below (by (with_reducible repeat (first | apply Kd.R_alloc | apply Kd.R_drewN | apply Kd.R_drew)); exact HO_3.out) hb); have n1_ := Aside0.mk (blk_below (g := gb356) (o := .cells #[.int .i64 t351, .int .i64 t352] 36 (0, 0)) (by (with_reducible repeat first | apply blk_drewN | apply blk_drew | apply blk_alloc); exact BK356.out) hb); have n2_ := Aside0.mk (blk_below (g := gb357) (o := .cells #[.int .i64 t353, .int .i64 t354] 36 (0, 0)) (by (with_reducible repeat first | apply blk_drewN | apply blk_drew | apply blk_alloc); exact BK357.out) hb); have n3_ := Aside0.mk (blk_below (g := gb363) (o := .cells #[.int .i64 t358, .int .i64 t359] 36 (0, 0)) (by (with_reducible repeat first | apply blk_drewN | apply blk_drew | apply blk_alloc); exact BK363.out) hb); have n4_ := Aside0.mk (blk_below (g := gb364) (o := .cells #[.int .i64 t360, .int .i64 t361] 36 (0, 0)) (by (with_reducible repeat first | apply blk_drewN | apply blk_drew | apply blk_alloc); exact BK364.out) hb); have n5_ := Aside0.mk (below_step (by repeat (first | (with_reducible first | exact HB.out | apply below_alloc | apply pw_below_drewN | apply below_drew1 | refine below_set ?_ GE356.out | refine below_set ?_ GE357.out | refine below_set ?_ GE363.out | refine below_set ?_ GE364.out) | exact HB.out)) hb); clear HO_3; clear BK356; clear BK357; clear BK363; clear BK364; clear HB; have HO_3 := n0_; have BK356 := n1_; have BK357 := n2_; have BK363 := n3_; have BK364 := n4_; have HB := n5_; clear n0_ n1_ n2_ n3_ n4_ n5_; (try clear hb); (try clear hb2); (try clear hk); (try clear hi)) | ((with_reducible refine gate_dst (N := 20) rfl ?_); (try (refine gate_guard (by rfl) ?_; dsimp only)); refine box_event ?hg (N := 20) ?hd (cs := #[.int .i64 0, .int .i64 0]) (t := 36) ?hr ?_; (case hd => rfl); (case hg => rfl); (case hr => first | (go_simp; done) | (go_simp; rfl)); intro gb373 hg w94 hbox hb; have n0_ := Aside0.mk (Kd.R_below (by (with_reducible repeat (first | apply Kd.R_alloc | apply Kd.R_drewN | apply Kd.R_drew)); exact HO_3.out) hb); have n1_ := Aside0.mk (blk_below (g := gb356) (o := .cells #[.int .i64 t351, .int .i64 t352] 36 (0, 0)) (by (with_reducible repeat first | apply blk_drewN | apply blk_drew | apply blk_alloc); exact BK356.out) hb); have n2_ := Aside0.mk (blk_below (g := gb357) (o := .cells #[.int .i64 t353, .int .i64 t354] 36 (0, 0)) (by (with_reducible repeat first | apply blk_drewN | apply blk_drew | apply blk_alloc); exact BK357.out) hb); have n3_ := Aside0.mk (blk_below (g := gb363) (o := .cells #[.int .i64 t358, .int .i64 t359] 36 (0, 0)) (by (with_reducible repeat first | apply blk_drewN | apply blk_drew | apply blk_alloc); exact BK363.out) hb); have n4_ := Aside0.mk (blk_below (g := gb364) (o := .cells #[.int .i64 t360, .int .i64 t361] 36 (0, 0)) (by (with_reducible repeat first | apply blk_drewN | apply blk_drew | apply blk_alloc); exact BK364.out) hb); have n5_ := Aside0.mk (below_step (by repeat (first | (with_reducible first | exact HB.out | apply below_alloc | apply pw_below_drewN | apply below_drew1 | refine below_set ?_ GE356.out | refine below_set ?_ GE357.out | refine below_set ?_ GE363.out | refine below_set ?_ GE364.out) | exact HB.out)) hb); have n6_ := Aside0.mk (hbox); have n7_ := Aside0.mk ((by rw [hg]; exact (below_size (by repeat (first | (with_reducible first | exact HB.out | apply below_alloc | apply pw_below_drewN | apply below_drew1 | refine below_set ?_ GE356.out | refine below_set ?_ GE357.out | refine below_set ?_ GE363.out | refine below_set ?_ GE364.out) | exact HB.out))) : w.heap.size ≤ gb373)); have n8_ := Aside0.mk ((by rw [hg]; exact (below_size (by repeat (first | (with_reducible first | exact HB.out | apply below_alloc | apply pw_below_drewN | apply below_drew1 | refine below_set ?_ GE356.out | refine below_set ?_ GE357.out | refine below_set ?_ GE363.out | refine below_set ?_ GE364.out) | exact HB.out))) : w.heap.size ≤ gb373)); have n9_ := Aside0.mk ((by rw [hg]; exact Nat.ne_of_lt (blk_lt (g := gb356) (o := .cells #[.int .i64 t351, .int .i64 t352] 36 (0, 0)) (by (with_reducible repeat first | apply blk_drewN | apply blk_drew | apply blk_alloc); exact BK356.out)) : gb356 ≠ gb373)); have n10_ := Aside0.mk ((by rw [hg]; exact Nat.ne_of_gt (blk_lt (g := gb356) (o := .cells #[.int .i64 t351, .int .i64 t352] 36 (0, 0)) (by (with_reducible repeat first | apply blk_drewN | apply blk_drew | apply blk_alloc); exact BK356.out)) : gb373 ≠ gb356)); have n11_ := Aside0.mk ((by rw [hg]; exact Nat.ne_of_lt (blk_lt (g := gb357) (o := .cells #[.int .i64 t353, .int .i64 t354] 36 (0, 0)) (by (with_reducible repeat first | apply blk_drewN | apply blk_drew | apply blk_alloc); exact BK357.out)) : gb357 ≠ gb373)); have n12_ := Aside0.mk ((by rw [hg]; exact Nat.ne_of_gt (blk_lt (g := gb357) (o := .cells #[.int .i64 t353, .int .i64 t354] 36 (0, 0)) (by (with_reducible repeat first | apply blk_drewN | apply blk_drew | apply blk_alloc); exact BK357.out)) : gb373 ≠ gb357)); have n13_ := Aside0.mk ((by rw [hg]; exact Nat.ne_of_lt (blk_lt (g := gb363) (o := .cells #[.int .i64 t358, .int .i64 t359] 36 (0, 0)) (by (with_reducible repeat first | apply blk_drewN | apply blk_drew | apply blk_alloc); exact BK363.out)) : gb363 ≠ gb373)); have n14_ := Aside0.mk ((by rw [hg]; exact Nat.ne_of_gt (blk_lt (g := gb363) (o := .cells #[.int .i64 t358, .int .i64 t359] 36 (0, 0)) (by (with_reducible repeat first | apply blk_drewN | apply blk_drew | apply blk_alloc); exact BK363.out)) : gb373 ≠ gb363)); have n15_ := Aside0.mk ((by rw [hg]; exact Nat.ne_of_lt (blk_lt (g := gb364) (o := .cells #[.int .i64 t360, .int .i64 t361] 36 (0, 0)) (by (with_reducible repeat first | apply blk_drewN | apply blk_drew | apply blk_alloc); exact BK364.out)) : gb364 ≠ gb373)); have n16_ := Aside0.mk ((by rw [hg]; exact Nat.ne_of_gt (blk_lt (g := gb364) (o := .cells #[.int .i64 t360, .int .i64 t361] 36 (0, 0)) (by (with_reducible repeat first | apply blk_drewN | apply blk_drew | apply blk_alloc); exact BK364.out)) : gb373 ≠ gb364)); clear HO_3; clear BK356; clear BK357; clear BK363; clear BK364; clear HB; have HO_3 := n0_; have BK356 := n1_; have BK357 := n2_; have BK363 := n3_; have BK364 := n4_; have HB := n5_; have BK373 := n6_; have GW373 := n7_; have GE373 := n8_; have NB356_373 := n9_; have NB373_356 := n10_; have NB357_373 := n11_; have NB373_357 := n12_; have NB363_373 := n13_; have NB373_363 := n14_; have NB364_373 := n15_; have NB373_364 := n16_; clear n0_ n1_ n2_ n3_ n4_ n5_ n6_ n7_ n8_ n9_ n10_ n11_ n12_ n13_ n14_ n15_ n16_; clear hb hbox hg; have hnb95 := NB373_356.out; have hnc95 := NB356_373.out; have hnb96 := NB373_357.out; have hnc96 := NB357_373.out; have hnb97 := NB373_363.out; have hnc97 := NB363_373.out; have hnb98 := NB373_364.out; have hnc98 := NB364_373.out; have hcz99_0 : w94.cell? ⟨gb373, 0, none⟩ = some (.int .i64 0) := (blk_cell BK373.out 0).trans rfl; have hcz99_1 : w94.cell? ⟨gb373, 1, none⟩ = some (.int .i64 0) := (blk_cell BK373.out 1).trans rfl; have hfz99_0 := blk_frozen BK373.out 0; have hfz99_1 := blk_frozen BK373.out 1) | ((with_reducible refine gate_callee (f := 23) rfl ?_); refine goesL_ (some 136) rfl rfl Try.func23 (by kernel_rfl) rfl #[.slice Ao9 t342.length co9] rfl (by (try simp only [List.map_toArray, List.map_cons, List.map_nil]); first | done | rfl | (simp only [List.length_drop, List.length_take]; rfl)) ?_; (with_reducible refine (spec_CentreOf.calls kj82 _ _ t342 t374 t375 t376 _ ?side1 ?side2 A91.out).mono ?_); (case side1 => refine (Kd.R_reads' (e := 33) (base := w.heap.size) (ok := fun k_ => True) (n := t342.length) (c := co9) ?_).2.2; exact (by (with_reducible repeat (first | apply Kd.R_alloc | apply Kd.R_drewN | apply Kd.R_drew)); exact (Kd.R_mono (Kd.R_far (p := ⟨gb373, 1, none⟩) (Kd.R_far (p := ⟨gb373, 0, none⟩) (Kd.R_types HO_3.out BK373.out (by decide)) (fun _ hk => hk.2) (.int .i64 t370)) (fun _ hk => hk.2) (.int .i64 t371)) (fun _ h_ => h_.1)))); (case side2 => exact (Kd.R_reads' HO_3.out).2.1); rintro e w100 ⟨rfl, hb⟩; refine ⟨_, rfl, ?_⟩; have n0_ := Aside0.mk (Kd.R_below (by (with_reducible repeat (first | apply Kd.R_alloc | apply Kd.R_drewN | apply Kd.R_drew)); exact (Kd.R_mono (Kd.R_far (p := ⟨gb373, 1, none⟩) (Kd.R_far (p := ⟨gb373, 0, none⟩) (Kd.R_types HO_3.out BK373.out (by decide)) (fun _ hk => hk.2) (.int .i64 t370)) (fun _ hk => hk.2) (.int .i64 t371)) (fun _ h_ => h_.1))) hb); have n1_ := Aside0.mk (blk_below (g := gb356) (o := .cells #[.int .i64 t351, .int .i64 t352] 36 (0, 0)) (by (with_reducible repeat first | apply blk_drewN | apply blk_drew | apply blk_alloc); refine blk_far ?_ NB356_373.out _; (with_reducible repeat first | apply blk_drewN | apply blk_drew | apply blk_alloc); refine blk_far ?_ NB356_373.out _; (with_reducible repeat first | apply blk_drewN | apply blk_drew | apply blk_alloc); exact BK356.out) hb); have n2_ := Aside0.mk (blk_below (g := gb357) (o := .cells #[.int .i64 t353, .int .i64 t354] 36 (0, 0)) (by (with_reducible repeat first | apply blk_drewN | apply blk_drew | apply blk_alloc); refine blk_far ?_ NB357_373.out _; (with_reducible repeat first | apply blk_drewN | apply blk_drew | apply blk_alloc); refine blk_far ?_ NB357_373.out _; (with_reducible repeat first | apply blk_drewN | apply blk_drew | apply blk_alloc); exact BK357.out) hb); have n3_ := Aside0.mk (blk_below (g := gb363) (o := .cells #[.int .i64 t358, .int .i64 t359] 36 (0, 0)) (by (with_reducible repeat first | apply blk_drewN | apply blk_drew | apply blk_alloc); refine blk_far ?_ NB363_373.out _; (with_reducible repeat first | apply blk_drewN | apply blk_drew | apply blk_alloc); refine blk_far ?_ NB363_373.out _; (with_reducible repeat first | apply blk_drewN | apply blk_drew | apply blk_alloc); exact BK363.out) hb); have n4_ := Aside0.mk (blk_below (g := gb364) (o := .cells #[.int .i64 t360, .int .i64 t361] 36 (0, 0)) (by (with_reducible repeat first | apply blk_drewN | apply blk_drew | apply blk_alloc); refine blk_far ?_ NB364_373.out _; (with_reducible repeat first | apply blk_drewN | apply blk_drew | apply blk_alloc); refine blk_far ?_ NB364_373.out _; (with_reducible repeat first | apply blk_drewN | apply blk_drew | apply blk_alloc); exact BK364.out) hb); have n5_ := Aside0.mk (blk_below (g := gb373) (o := .cells #[.int .i64 t370, .int .i64 t371] 36 (0, 0)) (by (with_reducible repeat first | apply blk_drewN | apply blk_drew | apply blk_alloc); refine blk_put (cs := #[.int .i64 t370, .int .i64 0]) ?_ 1 _ rfl; (with_reducible repeat first | apply blk_drewN | apply blk_drew | apply blk_alloc); refine blk_put (cs := #[.int .i64 0, .int .i64 0]) ?_ 0 _ rfl; (with_reducible repeat first | apply blk_drewN | apply blk_drew | apply blk_alloc); exact BK373.out) hb); have n6_ := Aside0.mk (below_step (by repeat (first | (with_reducible first | exact HB.out | apply below_alloc | apply pw_below_drewN | apply below_drew1 | refine below_set ?_ GE356.out | refine below_set ?_ GE357.out | refine below_set ?_ GE363.out | refine below_set ?_ GE364.out | refine below_set ?_ GE373.out) | exact HB.out)) hb); clear HO_3; clear BK356; clear BK357; clear BK363; clear BK364; clear BK373; clear HB; have HO_3 := n0_; have BK356 := n1_; have BK357 := n2_; have BK363 := n3_; have BK364 := n4_; have BK373 := n5_; have HB := n6_; clear n0_ n1_ n2_ n3_ n4_ n5_ n6_; (try clear hb); (try clear hb2); (try clear hk); (try clear hi)) | ((with_reducible refine gate_dst (N := 22) rfl ?_); (try (refine gate_guard (by rfl) ?_; dsimp only)); refine box_event ?hg (N := 22) ?hd (cs := #[.int .i64 0, .int .i64 0]) (t := 36) ?hr ?_; (case hd => rfl); (case hg => rfl); (case hr => first | (go_simp; done) | (go_simp; rfl)); intro gb377 hg w101 hbox hb; have n0_ := Aside0.mk (Kd.R_below (by (with_reducible repeat (first | apply Kd.R_alloc | apply Kd.R_drewN | apply Kd.R_drew)); exact HO_3.out) hb); have n1_ := Aside0.mk (blk_below (g := gb356) (o := .cells #[.int .i64 t351, .int .i64 t352] 36 (0, 0)) (by (with_reducible repeat first | apply blk_drewN | apply blk_drew | apply blk_alloc); exact BK356.out) hb); have n2_ := Aside0.mk (blk_below (g := gb357) (o := .cells #[.int .i64 t353, .int .i64 t354] 36 (0, 0)) (by (with_reducible repeat first | apply blk_drewN | apply blk_drew | apply blk_alloc); exact BK357.out) hb); have n3_ := Aside0.mk (blk_below (g := gb363) (o := .cells #[.int .i64 t358, .int .i64 t359] 36 (0, 0)) (by (with_reducible repeat first | apply blk_drewN | apply blk_drew | apply blk_alloc); exact BK363.out) hb); have n4_ := Aside0.mk (blk_below (g := gb364) (o := .cells #[.int .i64 t360, .int .i64 t361] 36 (0, 0)) (by (with_reducible repeat first | apply blk_drewN | apply blk_drew | apply blk_alloc); exact BK364.out) hb); have n5_ := Aside0.mk (blk_below (g := gb373) (o := .cells #[.int .i64 t370, .int .i64 t371] 36 (0, 0)) (by (with_reducible repeat first | apply blk_drewN | apply blk_drew | apply blk_alloc); exact BK373.out) hb); have n6_ := Aside0.mk (below_step (by repeat (first | (with_reducible first | exact HB.out | apply below_alloc | apply pw_below_drewN | apply below_drew1 | refine below_set ?_ GE356.out | refine below_set ?_ GE357.out | refine below_set ?_ GE363.out | refine below_set ?_ GE364.out | refine below_set ?_ GE373.out) | exact HB.out)) hb); have n7_ := Aside0.mk (hbox); have n8_ := Aside0.mk ((by rw [hg]; exact (below_size (by repeat (first | (with_reducible first | exact HB.out | apply below_alloc | apply pw_below_drewN | apply below_drew1 | refine below_set ?_ GE356.out | refine below_set ?_ GE357.out | refine below_set ?_ GE363.out | refine below_set ?_ GE364.out | refine below_set ?_ GE373.out) | exact HB.out))) : w.heap.size ≤ gb377)); have n9_ := Aside0.mk ((by rw [hg]; exact (below_size (by repeat (first | (with_reducible first | exact HB.out | apply below_alloc | apply pw_below_drewN | apply below_drew1 | refine below_set ?_ GE356.out | refine below_set ?_ GE357.out | refine below_set ?_ GE363.out | refine below_set ?_ GE364.out | refine below_set ?_ GE373.out) | exact HB.out))) : w.heap.size ≤ gb377)); have n10_ := Aside0.mk ((by rw [hg]; exact Nat.ne_of_lt (blk_lt (g := gb356) (o := .cells #[.int .i64 t351, .int .i64 t352] 36 (0, 0)) (by (with_reducible repeat first | apply blk_drewN | apply blk_drew | apply blk_alloc); exact BK356.out)) : gb356 ≠ gb377)); have n11_ := Aside0.mk ((by rw [hg]; exact Nat.ne_of_gt (blk_lt (g := gb356) (o := .cells #[.int .i64 t351, .int .i64 t352] 36 (0, 0)) (by (with_reducible repeat first | apply blk_drewN | apply blk_drew | apply blk_alloc); exact BK356.out)) : gb377 ≠ gb356)); have n12_ := Aside0.mk ((by rw [hg]; exact Nat.ne_of_lt (blk_lt (g := gb357) (o := .cells #[.int .i64 t353, .int .i64 t354] 36 (0, 0)) (by (with_reducible repeat first | apply blk_drewN | apply blk_drew | apply blk_alloc); exact BK357.out)) : gb357 ≠ gb377)); have n13_ := Aside0.mk ((by rw [hg]; exact Nat.ne_of_gt (blk_lt (g := gb357) (o := .cells #[.int .i64 t353, .int .i64 t354] 36 (0, 0)) (by (with_reducible repeat first | apply blk_drewN | apply blk_drew | apply blk_alloc); exact BK357.out)) : gb377 ≠ gb357)); have n14_ := Aside0.mk ((by rw [hg]; exact Nat.ne_of_lt (blk_lt (g := gb363) (o := .cells #[.int .i64 t358, .int .i64 t359] 36 (0, 0)) (by (with_reducible repeat first | apply blk_drewN | apply blk_drew | apply blk_alloc); exact BK363.out)) : gb363 ≠ gb377)); have n15_ := Aside0.mk ((by rw [hg]; exact Nat.ne_of_gt (blk_lt (g := gb363) (o := .cells #[.int .i64 t358, .int .i64 t359] 36 (0, 0)) (by (with_reducible repeat first | apply blk_drewN | apply blk_drew | apply blk_alloc); exact BK363.out)) : gb377 ≠ gb363)); have n16_ := Aside0.mk ((by rw [hg]; exact Nat.ne_of_lt (blk_lt (g := gb364) (o := .cells #[.int .i64 t360, .int .i64 t361] 36 (0, 0)) (by (with_reducible repeat first | apply blk_drewN | apply blk_drew | apply blk_alloc); exact BK364.out)) : gb364 ≠ gb377)); have n17_ := Aside0.mk ((by rw [hg]; exact Nat.ne_of_gt (blk_lt (g := gb364) (o := .cells #[.int .i64 t360, .int .i64 t361] 36 (0, 0)) (by (with_reducible repeat first | apply blk_drewN | apply blk_drew | apply blk_alloc); exact BK364.out)) : gb377 ≠ gb364)); have n18_ := Aside0.mk ((by rw [hg]; exact Nat.ne_of_lt (blk_lt (g := gb373) (o := .cells #[.int .i64 t370, .int .i64 t371] 36 (0, 0)) (by (with_reducible repeat first | apply blk_drewN | apply blk_drew | apply blk_alloc); exact BK373.out)) : gb373 ≠ gb377)); have n19_ := Aside0.mk ((by rw [hg]; exact Nat.ne_of_gt (blk_lt (g := gb373) (o := .cells #[.int .i64 t370, .int .i64 t371] 36 (0, 0)) (by (with_reducible repeat first | apply blk_drewN | apply blk_drew | apply blk_alloc); exact BK373.out)) : gb377 ≠ gb373)); clear HO_3; clear BK356; clear BK357; clear BK363; clear BK364; clear BK373; clear HB; have HO_3 := n0_; have BK356 := n1_; have BK357 := n2_; have BK363 := n3_; have BK364 := n4_; have BK373 := n5_; have HB := n6_; have BK377 := n7_; have GW377 := n8_; have GE377 := n9_; have NB356_377 := n10_; have NB377_356 := n11_; have NB357_377 := n12_; have NB377_357 := n13_; have NB363_377 := n14_; have NB377_363 := n15_; have NB364_377 := n16_; have NB377_364 := n17_; have NB373_377 := n18_; have NB377_373 := n19_; clear n0_ n1_ n2_ n3_ n4_ n5_ n6_ n7_ n8_ n9_ n10_ n11_ n12_ n13_ n14_ n15_ n16_ n17_ n18_ n19_; clear hb hbox hg; have hnb102 := NB377_356.out; have hnc102 := NB356_377.out; have hnb103 := NB377_357.out; have hnc103 := NB357_377.out; have hnb104 := NB377_363.out; have hnc104 := NB363_377.out; have hnb105 := NB377_364.out; have hnc105 := NB364_377.out; have hnb106 := NB377_373.out; have hnc106 := NB373_377.out; have hcz107_0 : w101.cell? ⟨gb377, 0, none⟩ = some (.int .i64 0) := (blk_cell BK377.out 0).trans rfl; have hcz107_1 : w101.cell? ⟨gb377, 1, none⟩ = some (.int .i64 0) := (blk_cell BK377.out 1).trans rfl; have hfz107_0 := blk_frozen BK377.out 0; have hfz107_1 := blk_frozen BK377.out 1))
           (try simp only [Act.put, List.setIfInBounds_toArray, List.set_cons_zero, List.set_cons_succ])
           go_cut [156] (fun v156 wc => ∃ (kq : Nat) (x156_91 : Bool), v156 = .bool x156_91 ∧ Aside0 (laws_FnCentres.j3 kq l0 t342 t343 t344 t347 t348 t355 t365 t366 t372 x156_91 t351 t352 t353 t354 t370 t371 = some r) ∧ Aside0 (kq ≤ kj82) ∧ Aside0 (Kd.R k33 33 wc w.heap.size (fun _ => True) (.slice Ao9 t342.length co9) t342) ∧ Aside0 (wc.heap[gb356]? = some (.cells #[.int .i64 t351, .int .i64 t352] 36 (0, 0))) ∧ Aside0 (wc.heap[gb357]? = some (.cells #[.int .i64 t353, .int .i64 t354] 36 (0, 0))) ∧ Aside0 (wc.heap[gb363]? = some (.cells #[.int .i64 t358, .int .i64 t359] 36 (0, 0))) ∧ Aside0 (wc.heap[gb364]? = some (.cells #[.int .i64 t360, .int .i64 t361] 36 (0, 0))) ∧ Aside0 (wc.heap[gb373]? = some (.cells #[.int .i64 t370, .int .i64 t371] 36 (0, 0))) ∧ Aside0 (wc.heap[gb377]? = some (.cells #[.int .i64 t374, .int .i64 t375] 36 (0, 0))) ∧ Aside0 (Below w.heap.size w wc))
           case first =>
            have H := HC92.out
            clear HC92
            by_cases c108 : t370 = t374
            rotate_left
            ·rw [if_neg c108] at H
             have c108b0 : (t370 == t374) = false := beq_eq_false_iff_ne.mpr c108
             have c108b1 : (t370 != t374) = true := bne_iff_ne.mpr c108
             (first | rw [c108b0] | (simp only [i64_w, i32_w]; rw [c108b0]) | skip)
             as_aux_lemma =>
              have H' := Aside0.mk H
              clear H; have hnb156 := NB373_356.out; have hnc156 := NB356_373.out; have hnb157 := NB373_357.out; have hnc157 := NB357_373.out; have hnb158 := NB373_363.out; have hnc158 := NB363_373.out; have hnb159 := NB373_364.out; have hnc159 := NB364_373.out; have hnb160 := NB373_377.out; have hnc160 := NB377_373.out
              have hcz161_0 : w101.cell? ⟨gb373, 0, none⟩ = some (.int .i64 t370) := (blk_cell BK373.out 0).trans rfl
              have hcz161_1 : w101.cell? ⟨gb373, 1, none⟩ = some (.int .i64 t371) := (blk_cell BK373.out 1).trans rfl
              have hfz161_0 := blk_frozen BK373.out 0
              have hfz161_1 := blk_frozen BK373.out 1
              have hnb162 := NB377_356.out; have hnc162 := NB356_377.out; have hnb163 := NB377_357.out; have hnc163 := NB357_377.out; have hnb164 := NB377_363.out; have hnc164 := NB363_377.out; have hnb165 := NB377_364.out; have hnc165 := NB364_377.out
              have hcz166_0 : w101.cell? ⟨gb377, 0, none⟩ = some (.int .i64 0) := (blk_cell BK377.out 0).trans rfl
              have hcz166_1 : w101.cell? ⟨gb377, 1, none⟩ = some (.int .i64 0) := (blk_cell BK377.out 1).trans rfl
              have hfz166_0 := blk_frozen BK377.out 0
              have hfz166_1 := blk_frozen BK377.out 1
              go_wp2
              go_meet
              case rel => exact ⟨_, (true), (by first | rfl | (simp; done) | (simp [*]; done) | (simp [bne]; done)), H', ⟨by have := HJ6.out; have := HJ14.out; have := HJ82.out; first | omega | exact Nat.le_refl _⟩, ⟨by (with_reducible repeat (first | apply Kd.R_alloc | apply Kd.R_drewN | apply Kd.R_drew)); exact Kd.R_mono (Kd.R_far (p := ⟨gb377, 1, none⟩) (Kd.R_far (p := ⟨gb377, 0, none⟩) (Kd.R_types HO_3.out BK377.out (by decide)) (fun _ hk => hk.2) (.int .i64 t374)) (fun _ hk => hk.2) (.int .i64 t375)) (fun _ hk => trivial)⟩, ⟨by (with_reducible repeat first | apply blk_drewN | apply blk_drew | apply blk_alloc); refine blk_far ?_ NB356_377.out _; (with_reducible repeat first | apply blk_drewN | apply blk_drew | apply blk_alloc); refine blk_far ?_ NB356_377.out _; (with_reducible repeat first | apply blk_drewN | apply blk_drew | apply blk_alloc); exact BK356.out⟩, ⟨by (with_reducible repeat first | apply blk_drewN | apply blk_drew | apply blk_alloc); refine blk_far ?_ NB357_377.out _; (with_reducible repeat first | apply blk_drewN | apply blk_drew | apply blk_alloc); refine blk_far ?_ NB357_377.out _; (with_reducible repeat first | apply blk_drewN | apply blk_drew | apply blk_alloc); exact BK357.out⟩, ⟨by (with_reducible repeat first | apply blk_drewN | apply blk_drew | apply blk_alloc); refine blk_far ?_ NB363_377.out _; (with_reducible repeat first | apply blk_drewN | apply blk_drew | apply blk_alloc); refine blk_far ?_ NB363_377.out _; (with_reducible repeat first | apply blk_drewN | apply blk_drew | apply blk_alloc); exact BK363.out⟩, ⟨by (with_reducible repeat first | apply blk_drewN | apply blk_drew | apply blk_alloc); refine blk_far ?_ NB364_377.out _; (with_reducible repeat first | apply blk_drewN | apply blk_drew | apply blk_alloc); refine blk_far ?_ NB364_377.out _; (with_reducible repeat first | apply blk_drewN | apply blk_drew | apply blk_alloc); exact BK364.out⟩, ⟨by (with_reducible repeat first | apply blk_drewN | apply blk_drew | apply blk_alloc); refine blk_far ?_ NB373_377.out _; (with_reducible repeat first | apply blk_drewN | apply blk_drew | apply blk_alloc); refine blk_far ?_ NB373_377.out _; (with_reducible repeat first | apply blk_drewN | apply blk_drew | apply blk_alloc); exact BK373.out⟩, ⟨by (with_reducible repeat first | apply blk_drewN | apply blk_drew | apply blk_alloc); refine blk_put (cs := #[.int .i64 t374, .int .i64 0]) ?_ 1 _ rfl; (with_reducible repeat first | apply blk_drewN | apply blk_drew | apply blk_alloc); refine blk_put (cs := #[.int .i64 0, .int .i64 0]) ?_ 0 _ rfl; (with_reducible repeat first | apply blk_drewN | apply blk_drew | apply blk_alloc); exact BK377.out⟩, ⟨by repeat (first | (with_reducible first | exact HB.out | apply below_alloc | apply pw_below_drewN | apply below_drew1 | refine below_set ?_ GE356.out | refine below_set ?_ GE357.out | refine below_set ?_ GE363.out | refine below_set ?_ GE364.out | refine below_set ?_ GE373.out | refine below_set ?_ GE377.out) | exact HB.out)⟩⟩
            rw [if_pos c108] at H
            have c108b0 : (t370 == t374) = true := beq_iff_eq.mpr c108
            have c108b1 : (t370 != t374) = false := bne_eq_false_iff_eq.mpr c108
            clear c108
            (first | rw [c108b0] | (simp only [i64_w, i32_w]; rw [c108b0]) | skip)
            by_cases c109 : t371 = t375
            rotate_left
            ·rw [if_neg c109] at H
             have c109b0 : (t371 == t375) = false := beq_eq_false_iff_ne.mpr c109
             have c109b1 : (t371 != t375) = true := bne_iff_ne.mpr c109
             as_aux_lemma =>
              have H' := Aside0.mk H
              clear H; have hnb145 := NB373_356.out; have hnc145 := NB356_373.out; have hnb146 := NB373_357.out; have hnc146 := NB357_373.out; have hnb147 := NB373_363.out; have hnc147 := NB363_373.out; have hnb148 := NB373_364.out; have hnc148 := NB364_373.out; have hnb149 := NB373_377.out; have hnc149 := NB377_373.out
              have hcz150_0 : w101.cell? ⟨gb373, 0, none⟩ = some (.int .i64 t370) := (blk_cell BK373.out 0).trans rfl
              have hcz150_1 : w101.cell? ⟨gb373, 1, none⟩ = some (.int .i64 t371) := (blk_cell BK373.out 1).trans rfl
              have hfz150_0 := blk_frozen BK373.out 0
              have hfz150_1 := blk_frozen BK373.out 1
              have hnb151 := NB377_356.out; have hnc151 := NB356_377.out; have hnb152 := NB377_357.out; have hnc152 := NB357_377.out; have hnb153 := NB377_363.out; have hnc153 := NB363_377.out; have hnb154 := NB377_364.out; have hnc154 := NB364_377.out
              have hcz155_0 : w101.cell? ⟨gb377, 0, none⟩ = some (.int .i64 0) := (blk_cell BK377.out 0).trans rfl
              have hcz155_1 : w101.cell? ⟨gb377, 1, none⟩ = some (.int .i64 0) := (blk_cell BK377.out 1).trans rfl
              have hfz155_0 := blk_frozen BK377.out 0
              have hfz155_1 := blk_frozen BK377.out 1
              go_wp2
              go_meet
              case rel => exact ⟨_, (true), (by first | rfl | (simp; done) | (simp [*]; done) | (simp [bne]; done)), H', ⟨by have := HJ6.out; have := HJ14.out; have := HJ82.out; first | omega | exact Nat.le_refl _⟩, ⟨by (with_reducible repeat (first | apply Kd.R_alloc | apply Kd.R_drewN | apply Kd.R_drew)); exact Kd.R_mono (Kd.R_far (p := ⟨gb377, 1, none⟩) (Kd.R_far (p := ⟨gb377, 0, none⟩) (Kd.R_types HO_3.out BK377.out (by decide)) (fun _ hk => hk.2) (.int .i64 t374)) (fun _ hk => hk.2) (.int .i64 t375)) (fun _ hk => trivial)⟩, ⟨by (with_reducible repeat first | apply blk_drewN | apply blk_drew | apply blk_alloc); refine blk_far ?_ NB356_377.out _; (with_reducible repeat first | apply blk_drewN | apply blk_drew | apply blk_alloc); refine blk_far ?_ NB356_377.out _; (with_reducible repeat first | apply blk_drewN | apply blk_drew | apply blk_alloc); exact BK356.out⟩, ⟨by (with_reducible repeat first | apply blk_drewN | apply blk_drew | apply blk_alloc); refine blk_far ?_ NB357_377.out _; (with_reducible repeat first | apply blk_drewN | apply blk_drew | apply blk_alloc); refine blk_far ?_ NB357_377.out _; (with_reducible repeat first | apply blk_drewN | apply blk_drew | apply blk_alloc); exact BK357.out⟩, ⟨by (with_reducible repeat first | apply blk_drewN | apply blk_drew | apply blk_alloc); refine blk_far ?_ NB363_377.out _; (with_reducible repeat first | apply blk_drewN | apply blk_drew | apply blk_alloc); refine blk_far ?_ NB363_377.out _; (with_reducible repeat first | apply blk_drewN | apply blk_drew | apply blk_alloc); exact BK363.out⟩, ⟨by (with_reducible repeat first | apply blk_drewN | apply blk_drew | apply blk_alloc); refine blk_far ?_ NB364_377.out _; (with_reducible repeat first | apply blk_drewN | apply blk_drew | apply blk_alloc); refine blk_far ?_ NB364_377.out _; (with_reducible repeat first | apply blk_drewN | apply blk_drew | apply blk_alloc); exact BK364.out⟩, ⟨by (with_reducible repeat first | apply blk_drewN | apply blk_drew | apply blk_alloc); refine blk_far ?_ NB373_377.out _; (with_reducible repeat first | apply blk_drewN | apply blk_drew | apply blk_alloc); refine blk_far ?_ NB373_377.out _; (with_reducible repeat first | apply blk_drewN | apply blk_drew | apply blk_alloc); exact BK373.out⟩, ⟨by (with_reducible repeat first | apply blk_drewN | apply blk_drew | apply blk_alloc); refine blk_put (cs := #[.int .i64 t374, .int .i64 0]) ?_ 1 _ rfl; (with_reducible repeat first | apply blk_drewN | apply blk_drew | apply blk_alloc); refine blk_put (cs := #[.int .i64 0, .int .i64 0]) ?_ 0 _ rfl; (with_reducible repeat first | apply blk_drewN | apply blk_drew | apply blk_alloc); exact BK377.out⟩, ⟨by repeat (first | (with_reducible first | exact HB.out | apply below_alloc | apply pw_below_drewN | apply below_drew1 | refine below_set ?_ GE356.out | refine below_set ?_ GE357.out | refine below_set ?_ GE363.out | refine below_set ?_ GE364.out | refine below_set ?_ GE373.out | refine below_set ?_ GE377.out) | exact HB.out)⟩⟩
            rw [if_pos c109] at H
            have c109b0 : (t371 == t375) = true := beq_iff_eq.mpr c109
            have c109b1 : (t371 != t375) = false := bne_eq_false_iff_eq.mpr c109
            clear c109
            by_cases c110 : (t372 != t376) = true
            ·rw [if_pos c110] at H
             have c110b0 : (t372 != t376) = true := c110
             (try (have c110b1 : decide (t372 = t376) = false := by simpa using c110))
             (try (have c110b2 : (t372 == t376) = false := by simpa using c110))
             (try (have c110b3 : ¬ (t372 = t376) := by simpa using c110))
             clear c110
             as_aux_lemma =>
              have H' := Aside0.mk H
              clear H; have hnb111 := NB373_356.out; have hnc111 := NB356_373.out; have hnb112 := NB373_357.out; have hnc112 := NB357_373.out; have hnb113 := NB373_363.out; have hnc113 := NB363_373.out; have hnb114 := NB373_364.out; have hnc114 := NB364_373.out; have hnb115 := NB373_377.out; have hnc115 := NB377_373.out
              have hcz116_0 : w101.cell? ⟨gb373, 0, none⟩ = some (.int .i64 t370) := (blk_cell BK373.out 0).trans rfl
              have hcz116_1 : w101.cell? ⟨gb373, 1, none⟩ = some (.int .i64 t371) := (blk_cell BK373.out 1).trans rfl
              have hfz116_0 := blk_frozen BK373.out 0
              have hfz116_1 := blk_frozen BK373.out 1
              have hnb117 := NB377_356.out; have hnc117 := NB356_377.out; have hnb118 := NB377_357.out; have hnc118 := NB357_377.out; have hnb119 := NB377_363.out; have hnc119 := NB363_377.out; have hnb120 := NB377_364.out; have hnc120 := NB364_377.out
              have hcz121_0 : w101.cell? ⟨gb377, 0, none⟩ = some (.int .i64 0) := (blk_cell BK377.out 0).trans rfl
              have hcz121_1 : w101.cell? ⟨gb377, 1, none⟩ = some (.int .i64 0) := (blk_cell BK377.out 1).trans rfl
              have hfz121_0 := blk_frozen BK377.out 0
              have hfz121_1 := blk_frozen BK377.out 1
              go_wp2
              go_meet
              case rel => exact ⟨_, (true), (by first | rfl | (simp; done) | (simp [*]; done) | (simp [bne]; done)), H', ⟨by have := HJ6.out; have := HJ14.out; have := HJ82.out; first | omega | exact Nat.le_refl _⟩, ⟨by (with_reducible repeat (first | apply Kd.R_alloc | apply Kd.R_drewN | apply Kd.R_drew)); exact Kd.R_mono (Kd.R_far (p := ⟨gb377, 1, none⟩) (Kd.R_far (p := ⟨gb377, 0, none⟩) (Kd.R_types HO_3.out BK377.out (by decide)) (fun _ hk => hk.2) (.int .i64 t374)) (fun _ hk => hk.2) (.int .i64 t375)) (fun _ hk => trivial)⟩, ⟨by (with_reducible repeat first | apply blk_drewN | apply blk_drew | apply blk_alloc); refine blk_far ?_ NB356_377.out _; (with_reducible repeat first | apply blk_drewN | apply blk_drew | apply blk_alloc); refine blk_far ?_ NB356_377.out _; (with_reducible repeat first | apply blk_drewN | apply blk_drew | apply blk_alloc); exact BK356.out⟩, ⟨by (with_reducible repeat first | apply blk_drewN | apply blk_drew | apply blk_alloc); refine blk_far ?_ NB357_377.out _; (with_reducible repeat first | apply blk_drewN | apply blk_drew | apply blk_alloc); refine blk_far ?_ NB357_377.out _; (with_reducible repeat first | apply blk_drewN | apply blk_drew | apply blk_alloc); exact BK357.out⟩, ⟨by (with_reducible repeat first | apply blk_drewN | apply blk_drew | apply blk_alloc); refine blk_far ?_ NB363_377.out _; (with_reducible repeat first | apply blk_drewN | apply blk_drew | apply blk_alloc); refine blk_far ?_ NB363_377.out _; (with_reducible repeat first | apply blk_drewN | apply blk_drew | apply blk_alloc); exact BK363.out⟩, ⟨by (with_reducible repeat first | apply blk_drewN | apply blk_drew | apply blk_alloc); refine blk_far ?_ NB364_377.out _; (with_reducible repeat first | apply blk_drewN | apply blk_drew | apply blk_alloc); refine blk_far ?_ NB364_377.out _; (with_reducible repeat first | apply blk_drewN | apply blk_drew | apply blk_alloc); exact BK364.out⟩, ⟨by (with_reducible repeat first | apply blk_drewN | apply blk_drew | apply blk_alloc); refine blk_far ?_ NB373_377.out _; (with_reducible repeat first | apply blk_drewN | apply blk_drew | apply blk_alloc); refine blk_far ?_ NB373_377.out _; (with_reducible repeat first | apply blk_drewN | apply blk_drew | apply blk_alloc); exact BK373.out⟩, ⟨by (with_reducible repeat first | apply blk_drewN | apply blk_drew | apply blk_alloc); refine blk_put (cs := #[.int .i64 t374, .int .i64 0]) ?_ 1 _ rfl; (with_reducible repeat first | apply blk_drewN | apply blk_drew | apply blk_alloc); refine blk_put (cs := #[.int .i64 0, .int .i64 0]) ?_ 0 _ rfl; (with_reducible repeat first | apply blk_drewN | apply blk_drew | apply blk_alloc); exact BK377.out⟩, ⟨by repeat (first | (with_reducible first | exact HB.out | apply below_alloc | apply pw_below_drewN | apply below_drew1 | refine below_set ?_ GE356.out | refine below_set ?_ GE357.out | refine below_set ?_ GE363.out | refine below_set ?_ GE364.out | refine below_set ?_ GE373.out | refine below_set ?_ GE377.out) | exact HB.out)⟩⟩
            rw [if_neg c110] at H
            have c110b0 : (t372 != t376) = false := by simpa using c110
            (try (have c110b1 : decide (t372 = t376) = true := by simpa using c110))
            (try (have c110b2 : (t372 == t376) = true := by simpa using c110))
            clear c110
            by_cases c122 : t366 = true
            ·subst c122
             have H1 : (laws_FnCentres.j3 kj82 l0 t342 t343 t344 t347 t348 t355 t365 true t372 (t372 != (decide ((t342.length : Int) > 0))) t351 t352 t353 t354 t370 t371) = some r := by rw [if_pos rfl] at H; exact H
             clear H
             have H := H1
             clear H1
             as_aux_lemma =>
              have H' := Aside0.mk H
              clear H; have hnb123 := NB373_356.out; have hnc123 := NB356_373.out; have hnb124 := NB373_357.out; have hnc124 := NB357_373.out; have hnb125 := NB373_363.out; have hnc125 := NB363_373.out; have hnb126 := NB373_364.out; have hnc126 := NB364_373.out; have hnb127 := NB373_377.out; have hnc127 := NB377_373.out
              have hcz128_0 : w101.cell? ⟨gb373, 0, none⟩ = some (.int .i64 t370) := (blk_cell BK373.out 0).trans rfl
              have hcz128_1 : w101.cell? ⟨gb373, 1, none⟩ = some (.int .i64 t371) := (blk_cell BK373.out 1).trans rfl
              have hfz128_0 := blk_frozen BK373.out 0
              have hfz128_1 := blk_frozen BK373.out 1
              have hnb129 := NB377_356.out; have hnc129 := NB356_377.out; have hnb130 := NB377_357.out; have hnc130 := NB357_377.out; have hnb131 := NB377_363.out; have hnc131 := NB363_377.out; have hnb132 := NB377_364.out; have hnc132 := NB364_377.out
              have hcz133_0 : w101.cell? ⟨gb377, 0, none⟩ = some (.int .i64 0) := (blk_cell BK377.out 0).trans rfl
              have hcz133_1 : w101.cell? ⟨gb377, 1, none⟩ = some (.int .i64 0) := (blk_cell BK377.out 1).trans rfl
              have hfz133_0 := blk_frozen BK377.out 0
              have hfz133_1 := blk_frozen BK377.out 1
              go_wp2
              go_meet
              case rel => exact ⟨_, ((t372 != (decide ((t342.length : Int) > 0)))), (by first | rfl | (simp; done) | (simp [*]; done) | (simp [bne]; done)), H', ⟨by have := HJ6.out; have := HJ14.out; have := HJ82.out; first | omega | exact Nat.le_refl _⟩, ⟨by (with_reducible repeat (first | apply Kd.R_alloc | apply Kd.R_drewN | apply Kd.R_drew)); exact Kd.R_mono (Kd.R_far (p := ⟨gb377, 1, none⟩) (Kd.R_far (p := ⟨gb377, 0, none⟩) (Kd.R_types HO_3.out BK377.out (by decide)) (fun _ hk => hk.2) (.int .i64 t374)) (fun _ hk => hk.2) (.int .i64 t375)) (fun _ hk => trivial)⟩, ⟨by (with_reducible repeat first | apply blk_drewN | apply blk_drew | apply blk_alloc); refine blk_far ?_ NB356_377.out _; (with_reducible repeat first | apply blk_drewN | apply blk_drew | apply blk_alloc); refine blk_far ?_ NB356_377.out _; (with_reducible repeat first | apply blk_drewN | apply blk_drew | apply blk_alloc); exact BK356.out⟩, ⟨by (with_reducible repeat first | apply blk_drewN | apply blk_drew | apply blk_alloc); refine blk_far ?_ NB357_377.out _; (with_reducible repeat first | apply blk_drewN | apply blk_drew | apply blk_alloc); refine blk_far ?_ NB357_377.out _; (with_reducible repeat first | apply blk_drewN | apply blk_drew | apply blk_alloc); exact BK357.out⟩, ⟨by (with_reducible repeat first | apply blk_drewN | apply blk_drew | apply blk_alloc); refine blk_far ?_ NB363_377.out _; (with_reducible repeat first | apply blk_drewN | apply blk_drew | apply blk_alloc); refine blk_far ?_ NB363_377.out _; (with_reducible repeat first | apply blk_drewN | apply blk_drew | apply blk_alloc); exact BK363.out⟩, ⟨by (with_reducible repeat first | apply blk_drewN | apply blk_drew | apply blk_alloc); refine blk_far ?_ NB364_377.out _; (with_reducible repeat first | apply blk_drewN | apply blk_drew | apply blk_alloc); refine blk_far ?_ NB364_377.out _; (with_reducible repeat first | apply blk_drewN | apply blk_drew | apply blk_alloc); exact BK364.out⟩, ⟨by (with_reducible repeat first | apply blk_drewN | apply blk_drew | apply blk_alloc); refine blk_far ?_ NB373_377.out _; (with_reducible repeat first | apply blk_drewN | apply blk_drew | apply blk_alloc); refine blk_far ?_ NB373_377.out _; (with_reducible repeat first | apply blk_drewN | apply blk_drew | apply blk_alloc); exact BK373.out⟩, ⟨by (with_reducible repeat first | apply blk_drewN | apply blk_drew | apply blk_alloc); refine blk_put (cs := #[.int .i64 t374, .int .i64 0]) ?_ 1 _ rfl; (with_reducible repeat first | apply blk_drewN | apply blk_drew | apply blk_alloc); refine blk_put (cs := #[.int .i64 0, .int .i64 0]) ?_ 0 _ rfl; (with_reducible repeat first | apply blk_drewN | apply blk_drew | apply blk_alloc); exact BK377.out⟩, ⟨by repeat (first | (with_reducible first | exact HB.out | apply below_alloc | apply pw_below_drewN | apply below_drew1 | refine below_set ?_ GE356.out | refine below_set ?_ GE357.out | refine below_set ?_ GE363.out | refine below_set ?_ GE364.out | refine below_set ?_ GE373.out | refine below_set ?_ GE377.out) | exact HB.out)⟩⟩
            replace c122 := Bool.eq_false_iff.mpr c122
            subst c122
            have H1 : (laws_FnCentres.j3 kj82 l0 t342 t343 t344 t347 t348 t355 t365 false t372 (t372 != false) t351 t352 t353 t354 t370 t371) = some r := by rw [if_neg (show ¬ (false = true) by decide)] at H; exact H
            clear H
            have H := H1
            clear H1
            as_aux_lemma =>
             have H' := Aside0.mk H
             clear H; have hnb134 := NB373_356.out; have hnc134 := NB356_373.out; have hnb135 := NB373_357.out; have hnc135 := NB357_373.out; have hnb136 := NB373_363.out; have hnc136 := NB363_373.out; have hnb137 := NB373_364.out; have hnc137 := NB364_373.out; have hnb138 := NB373_377.out; have hnc138 := NB377_373.out
             have hcz139_0 : w101.cell? ⟨gb373, 0, none⟩ = some (.int .i64 t370) := (blk_cell BK373.out 0).trans rfl
             have hcz139_1 : w101.cell? ⟨gb373, 1, none⟩ = some (.int .i64 t371) := (blk_cell BK373.out 1).trans rfl
             have hfz139_0 := blk_frozen BK373.out 0
             have hfz139_1 := blk_frozen BK373.out 1
             have hnb140 := NB377_356.out; have hnc140 := NB356_377.out; have hnb141 := NB377_357.out; have hnc141 := NB357_377.out; have hnb142 := NB377_363.out; have hnc142 := NB363_377.out; have hnb143 := NB377_364.out; have hnc143 := NB364_377.out
             have hcz144_0 : w101.cell? ⟨gb377, 0, none⟩ = some (.int .i64 0) := (blk_cell BK377.out 0).trans rfl
             have hcz144_1 : w101.cell? ⟨gb377, 1, none⟩ = some (.int .i64 0) := (blk_cell BK377.out 1).trans rfl
             have hfz144_0 := blk_frozen BK377.out 0
             have hfz144_1 := blk_frozen BK377.out 1
             go_wp2
             go_meet
             case rel => exact ⟨_, ((t372 != false)), (by first | rfl | (simp; done) | (simp [*]; done) | (simp [bne]; done)), H', ⟨by have := HJ6.out; have := HJ14.out; have := HJ82.out; first | omega | exact Nat.le_refl _⟩, ⟨by (with_reducible repeat (first | apply Kd.R_alloc | apply Kd.R_drewN | apply Kd.R_drew)); exact Kd.R_mono (Kd.R_far (p := ⟨gb377, 1, none⟩) (Kd.R_far (p := ⟨gb377, 0, none⟩) (Kd.R_types HO_3.out BK377.out (by decide)) (fun _ hk => hk.2) (.int .i64 t374)) (fun _ hk => hk.2) (.int .i64 t375)) (fun _ hk => trivial)⟩, ⟨by (with_reducible repeat first | apply blk_drewN | apply blk_drew | apply blk_alloc); refine blk_far ?_ NB356_377.out _; (with_reducible repeat first | apply blk_drewN | apply blk_drew | apply blk_alloc); refine blk_far ?_ NB356_377.out _; (with_reducible repeat first | apply blk_drewN | apply blk_drew | apply blk_alloc); exact BK356.out⟩, ⟨by (with_reducible repeat first | apply blk_drewN | apply blk_drew | apply blk_alloc); refine blk_far ?_ NB357_377.out _; (with_reducible repeat first | apply blk_drewN | apply blk_drew | apply blk_alloc); refine blk_far ?_ NB357_377.out _; (with_reducible repeat first | apply blk_drewN | apply blk_drew | apply blk_alloc); exact BK357.out⟩, ⟨by (with_reducible repeat first | apply blk_drewN | apply blk_drew | apply blk_alloc); refine blk_far ?_ NB363_377.out _; (with_reducible repeat first | apply blk_drewN | apply blk_drew | apply blk_alloc); refine blk_far ?_ NB363_377.out _; (with_reducible repeat first | apply blk_drewN | apply blk_drew | apply blk_alloc); exact BK363.out⟩, ⟨by (with_reducible repeat first | apply blk_drewN | apply blk_drew | apply blk_alloc); refine blk_far ?_ NB364_377.out _; (with_reducible repeat first | apply blk_drewN | apply blk_drew | apply blk_alloc); refine blk_far ?_ NB364_377.out _; (with_reducible repeat first | apply blk_drewN | apply blk_drew | apply blk_alloc); exact BK364.out⟩, ⟨by (with_reducible repeat first | apply blk_drewN | apply blk_drew | apply blk_alloc); refine blk_far ?_ NB373_377.out _; (with_reducible repeat first | apply blk_drewN | apply blk_drew | apply blk_alloc); refine blk_far ?_ NB373_377.out _; (with_reducible repeat first | apply blk_drewN | apply blk_drew | apply blk_alloc); exact BK373.out⟩, ⟨by (with_reducible repeat first | apply blk_drewN | apply blk_drew | apply blk_alloc); refine blk_put (cs := #[.int .i64 t374, .int .i64 0]) ?_ 1 _ rfl; (with_reducible repeat first | apply blk_drewN | apply blk_drew | apply blk_alloc); refine blk_put (cs := #[.int .i64 0, .int .i64 0]) ?_ 0 _ rfl; (with_reducible repeat first | apply blk_drewN | apply blk_drew | apply blk_alloc); exact BK377.out⟩, ⟨by repeat (first | (with_reducible first | exact HB.out | apply below_alloc | apply pw_below_drewN | apply below_drew1 | refine below_set ?_ GE356.out | refine below_set ?_ GE357.out | refine below_set ?_ GE363.out | refine below_set ?_ GE364.out | refine below_set ?_ GE373.out | refine below_set ?_ GE377.out) | exact HB.out)⟩⟩
           case rest =>
            clear HC92
            obtain ⟨kq, x156_91, rfl, HA, HJ91, HO_3, BK356, BK357, BK363, BK364, BK373, BK377, HB⟩ := hcut
            cases kq with
            | zero => exact absurd HA.out (by simp [laws_FnCentres.j3])
            | succ kj91 =>
             have H := HA.out
             clear HA
             simp only [laws_FnCentres.j3] at H
             by_cases c167 : x156_91 = true
             ·subst c167
              have H1 : (some false) = some r := by rw [if_pos rfl] at H; exact H
              clear H
              have H := H1
              clear H1
              as_aux_lemma =>
               obtain rfl := Option.some.inj H
               go_wp2
               go_ret
               exact ⟨by first | rfl | (simp [errW_none, errW_some] <;> rfl) | (simp [*, errW_none, errW_some] <;> rfl), by repeat (first | (with_reducible first | exact HB.out | apply below_alloc | apply pw_below_drewN | apply below_drew1 | refine below_set ?_ GE356.out | refine below_set ?_ GE357.out | refine below_set ?_ GE363.out | refine below_set ?_ GE364.out | refine below_set ?_ GE373.out | refine below_set ?_ GE377.out) | exact HB.out)⟩
             replace c167 := Bool.eq_false_iff.mpr c167
             subst c167
             have H1 : ((impl_MirrorRow.f kj91 t342).bind fun bt378 => ((spec_MirrorRow.f kj91 t342).bind fun bt382 => (if (bt378.2 != bt382.2) = true then (laws_FnCentres.j4 kj91 l0 t342 t343 t344 t347 t348 t355 t365 t372 bt378.1 true t351 t352 t353 t354 t370 t371) else (if (bt378.2 != t366) = true then (laws_FnCentres.j4 kj91 l0 t342 t343 t344 t347 t348 t355 t365 t372 bt378.1 true t351 t352 t353 t354 t370 t371) else ((laws_rRow.f kj91 bt378.1 bt382.1).bind fun t386 => (laws_FnCentres.j4 kj91 l0 t342 t343 t344 t347 t348 t355 t365 t372 bt378.1 (!t386) t351 t352 t353 t354 t370 t371)))))) = some r := by rw [if_neg (show ¬ (false = true) by decide)] at H; exact H
             clear H
             have H := H1
             clear H1
             replace H := Option.bind_eq_some_iff.mp H
             obtain ⟨⟨t378, t379⟩, A1680, H⟩ := H
             replace H : ((spec_MirrorRow.f kj91 t342).bind fun bt382 => (if (t379 != bt382.2) = true then (laws_FnCentres.j4 kj91 l0 t342 t343 t344 t347 t348 t355 t365 t372 t378 true t351 t352 t353 t354 t370 t371) else (if (t379 != t366) = true then (laws_FnCentres.j4 kj91 l0 t342 t343 t344 t347 t348 t355 t365 t372 t378 true t351 t352 t353 t354 t370 t371) else ((laws_rRow.f kj91 t378 bt382.1).bind fun t386 => (laws_FnCentres.j4 kj91 l0 t342 t343 t344 t347 t348 t355 t365 t372 t378 (!t386) t351 t352 t353 t354 t370 t371))))) = some r := H
             have A168 := Aside0.mk A1680
             clear A1680
             replace H := Option.bind_eq_some_iff.mp H
             obtain ⟨⟨t382, t383⟩, A1690, H⟩ := H
             replace H : (if (t379 != t383) = true then (laws_FnCentres.j4 kj91 l0 t342 t343 t344 t347 t348 t355 t365 t372 t378 true t351 t352 t353 t354 t370 t371) else (if (t379 != t366) = true then (laws_FnCentres.j4 kj91 l0 t342 t343 t344 t347 t348 t355 t365 t372 t378 true t351 t352 t353 t354 t370 t371) else ((laws_rRow.f kj91 t378 t382).bind fun t386 => (laws_FnCentres.j4 kj91 l0 t342 t343 t344 t347 t348 t355 t365 t372 t378 (!t386) t351 t352 t353 t354 t370 t371)))) = some r := H
             have A169 := Aside0.mk A1690
             clear A1690
             have HC170 := Aside0.mk H
             clear H
             as_aux_lemma =>
              go_upto_region 22 with (first | ((with_reducible refine gate_callee (f := 24) rfl ?_); refine goesL_ (some 159) rfl rfl Try.func24 (by kernel_rfl) rfl #[.slice Ao9 t342.length co9] rfl (by (try simp only [List.map_toArray, List.map_cons, List.map_nil]); first | done | rfl | (simp only [List.length_drop, List.length_take]; rfl)) ?_; (with_reducible refine (impl_MirrorRow.calls kj91 _ _ t342 t378 t379 _ ?side1 ?side2 A168.out).mono ?_); (case side1 => repeat (first | exact (Kd.R_reads' HO_3.out).2.2 | (with_reducible refine Kd.C_alloc ?_ _) | (with_reducible refine Kd.C_drewN ?_ _) | (with_reducible refine Kd.C_drew ?_))); (case side2 => exact (Kd.R_reads' HO_3.out).2.1); rintro e w171 ⟨v380, rfl, ho0, hb⟩; refine ⟨_, rfl, ?_⟩; have n0_ := Aside0.mk (Kd.R_elder' (by (with_reducible repeat (first | apply Kd.R_alloc | apply Kd.R_drewN | apply Kd.R_drew)); exact HO_3.out) (Kd.R_base ho0) hb); have n1_ := Aside0.mk (Kd.R_lower (Kd.R_new' ho0 (Kd.R_lt (by (with_reducible repeat (first | apply Kd.R_alloc | apply Kd.R_drewN | apply Kd.R_drew)); exact HO_3.out))) (below_size (by repeat (first | (with_reducible first | exact HB.out | apply below_alloc | apply pw_below_drewN | apply below_drew1 | refine below_set ?_ GE356.out | refine below_set ?_ GE357.out | refine below_set ?_ GE363.out | refine below_set ?_ GE364.out | refine below_set ?_ GE373.out | refine below_set ?_ GE377.out) | exact HB.out)))); have n2_ := Aside0.mk (blk_below (g := gb356) (o := .cells #[.int .i64 t351, .int .i64 t352] 36 (0, 0)) (by (with_reducible repeat first | apply blk_drewN | apply blk_drew | apply blk_alloc); exact BK356.out) hb); have n3_ := Aside0.mk (blk_below (g := gb357) (o := .cells #[.int .i64 t353, .int .i64 t354] 36 (0, 0)) (by (with_reducible repeat first | apply blk_drewN | apply blk_drew | apply blk_alloc); exact BK357.out) hb); have n4_ := Aside0.mk (blk_below (g := gb363) (o := .cells #[.int .i64 t358, .int .i64 t359] 36 (0, 0)) (by (with_reducible repeat first | apply blk_drewN | apply blk_drew | apply blk_alloc); exact BK363.out) hb); have n5_ := Aside0.mk (blk_below (g := gb364) (o := .cells #[.int .i64 t360, .int .i64 t361] 36 (0, 0)) (by (with_reducible repeat first | apply blk_drewN | apply blk_drew | apply blk_alloc); exact BK364.out) hb); have n6_ := Aside0.mk (blk_below (g := gb373) (o := .cells #[.int .i64 t370, .int .i64 t371] 36 (0, 0)) (by (with_reducible repeat first | apply blk_drewN | apply blk_drew | apply blk_alloc); exact BK373.out) hb); have n7_ := Aside0.mk (blk_below (g := gb377) (o := .cells #[.int .i64 t374, .int .i64 t375] 36 (0, 0)) (by (with_reducible repeat first | apply blk_drewN | apply blk_drew | apply blk_alloc); exact BK377.out) hb); have n8_ := Aside0.mk (below_step (by repeat (first | (with_reducible first | exact HB.out | apply below_alloc | apply pw_below_drewN | apply below_drew1 | refine below_set ?_ GE356.out | refine below_set ?_ GE357.out | refine below_set ?_ GE363.out | refine below_set ?_ GE364.out | refine below_set ?_ GE373.out | refine below_set ?_ GE377.out) | exact HB.out)) hb); clear HO_3; clear BK356; clear BK357; clear BK363; clear BK364; clear BK373; clear BK377; clear HB; have HO_3 := n0_; have HO381 := n1_; have BK356 := n2_; have BK357 := n3_; have BK363 := n4_; have BK364 := n5_; have BK373 := n6_; have BK377 := n7_; have HB := n8_; clear n0_ n1_ n2_ n3_ n4_ n5_ n6_ n7_ n8_; (try clear hb); (try clear hb2); (try clear hk); (try clear hi); (try clear ho0)) | ((with_reducible refine gate_callee (f := 25) rfl ?_); refine goesL_ (some 164) rfl rfl Try.func25 (by kernel_rfl) rfl #[.slice Ao9 t342.length co9] rfl (by (try simp only [List.map_toArray, List.map_cons, List.map_nil]); first | done | rfl | (simp only [List.length_drop, List.length_take]; rfl)) ?_; (with_reducible refine (spec_MirrorRow.calls kj91 _ _ t342 t382 t383 _ ?side1 ?side2 A169.out).mono ?_); (case side1 => repeat (first | exact (Kd.R_reads' HO_3.out).2.2 | (with_reducible refine Kd.C_alloc ?_ _) | (with_reducible refine Kd.C_drewN ?_ _) | (with_reducible refine Kd.C_drew ?_))); (case side2 => exact (Kd.R_reads' HO_3.out).2.1); rintro e w172 ⟨v384, rfl, ho0, hb⟩; refine ⟨_, rfl, ?_⟩; have n0_ := Aside0.mk (Kd.R_elder' (by (with_reducible repeat (first | apply Kd.R_alloc | apply Kd.R_drewN | apply Kd.R_drew)); exact HO_3.out) (Kd.R_base ho0) hb); have n1_ := Aside0.mk (Kd.R_elder' (by (with_reducible repeat (first | apply Kd.R_alloc | apply Kd.R_drewN | apply Kd.R_drew)); exact HO381.out) (Kd.R_base ho0) hb); have n2_ := Aside0.mk (Kd.R_lower (Kd.R_new' (Kd.R_new' ho0 (Kd.R_lt (by (with_reducible repeat (first | apply Kd.R_alloc | apply Kd.R_drewN | apply Kd.R_drew)); exact HO_3.out))) (Kd.R_lt (by (with_reducible repeat (first | apply Kd.R_alloc | apply Kd.R_drewN | apply Kd.R_drew)); exact HO381.out))) (below_size (by repeat (first | (with_reducible first | exact HB.out | apply below_alloc | apply pw_below_drewN | apply below_drew1 | refine below_set ?_ GE356.out | refine below_set ?_ GE357.out | refine below_set ?_ GE363.out | refine below_set ?_ GE364.out | refine below_set ?_ GE373.out | refine below_set ?_ GE377.out) | exact HB.out)))); have n3_ := Aside0.mk (blk_below (g := gb356) (o := .cells #[.int .i64 t351, .int .i64 t352] 36 (0, 0)) (by (with_reducible repeat first | apply blk_drewN | apply blk_drew | apply blk_alloc); exact BK356.out) hb); have n4_ := Aside0.mk (blk_below (g := gb357) (o := .cells #[.int .i64 t353, .int .i64 t354] 36 (0, 0)) (by (with_reducible repeat first | apply blk_drewN | apply blk_drew | apply blk_alloc); exact BK357.out) hb); have n5_ := Aside0.mk (blk_below (g := gb363) (o := .cells #[.int .i64 t358, .int .i64 t359] 36 (0, 0)) (by (with_reducible repeat first | apply blk_drewN | apply blk_drew | apply blk_alloc); exact BK363.out) hb); have n6_ := Aside0.mk (blk_below (g := gb364) (o := .cells #[.int .i64 t360, .int .i64 t361] 36 (0, 0)) (by (with_reducible repeat first | apply blk_drewN | apply blk_drew | apply blk_alloc); exact BK364.out) hb); have n7_ := Aside0.mk (blk_below (g := gb373) (o := .cells #[.int .i64 t370, .int .i64 t371] 36 (0, 0)) (by (with_reducible repeat first | apply blk_drewN | apply blk_drew | apply blk_alloc); exact BK373.out) hb); have n8_ := Aside0.mk (blk_below (g := gb377) (o := .cells #[.int .i64 t374, .int .i64 t375] 36 (0, 0)) (by (with_reducible repeat first | apply blk_drewN | apply blk_drew | apply blk_alloc); exact BK377.out) hb); have n9_ := Aside0.mk (below_step (by repeat (first | (with_reducible first | exact HB.out | apply below_alloc | apply pw_below_drewN | apply below_drew1 | refine below_set ?_ GE356.out | refine below_set ?_ GE357.out | refine below_set ?_ GE363.out | refine below_set ?_ GE364.out | refine below_set ?_ GE373.out | refine below_set ?_ GE377.out) | exact HB.out)) hb); clear HO_3; clear HO381; clear BK356; clear BK357; clear BK363; clear BK364; clear BK373; clear BK377; clear HB; have HO_3 := n0_; have HO381 := n1_; have HO385 := n2_; have BK356 := n3_; have BK357 := n4_; have BK363 := n5_; have BK364 := n6_; have BK373 := n7_; have BK377 := n8_; have HB := n9_; clear n0_ n1_ n2_ n3_ n4_ n5_ n6_ n7_ n8_ n9_; (try clear hb); (try clear hb2); (try clear hk); (try clear hi); (try clear ho0)))
              (try simp only [Act.put, List.setIfInBounds_toArray, List.set_cons_zero, List.set_cons_succ])
              go_cut [180] (fun v180 wc => ∃ (kq : Nat) (x180_169 : Bool), v180 = .bool x180_169 ∧ Aside0 (laws_FnCentres.j4 kq l0 t342 t343 t344 t347 t348 t355 t365 t372 t378 x180_169 t351 t352 t353 t354 t370 t371 = some r) ∧ Aside0 (kq ≤ kj91) ∧ Aside0 (Kd.R k33 33 wc w.heap.size (fun k_ => some k_ ≠ (v380 : Value).ownBlock) (.slice Ao9 t342.length co9) t342) ∧ Aside0 (Kd.R k33 33 wc w.heap.size (fun k_ => some k_ ≠ ((.slice Ao9 t342.length co9) : Value).ownBlock) v380 t378) ∧ Aside0 (wc.heap[gb356]? = some (.cells #[.int .i64 t351, .int .i64 t352] 36 (0, 0))) ∧ Aside0 (wc.heap[gb357]? = some (.cells #[.int .i64 t353, .int .i64 t354] 36 (0, 0))) ∧ Aside0 (wc.heap[gb363]? = some (.cells #[.int .i64 t358, .int .i64 t359] 36 (0, 0))) ∧ Aside0 (wc.heap[gb364]? = some (.cells #[.int .i64 t360, .int .i64 t361] 36 (0, 0))) ∧ Aside0 (wc.heap[gb373]? = some (.cells #[.int .i64 t370, .int .i64 t371] 36 (0, 0))) ∧ Aside0 (wc.heap[gb377]? = some (.cells #[.int .i64 t374, .int .i64 t375] 36 (0, 0))) ∧ Aside0 (Below w.heap.size w wc))
              case first =>
               have H := HC170.out
               clear HC170
               by_cases c173 : (t379 != t383) = true
               ·rw [if_pos c173] at H
                have c173b0 : (t379 != t383) = true := c173
                (try (have c173b1 : decide (t379 = t383) = false := by simpa using c173))
                (try (have c173b2 : (t379 == t383) = false := by simpa using c173))
                (try (have c173b3 : ¬ (t379 = t383) := by simpa using c173))
                clear c173
                (first | rw [c173b0] | (simp only [i64_w, i32_w]; rw [c173b0]) | skip)
                as_aux_lemma =>
                 have H' := Aside0.mk H
                 clear H
                 go_wp2
                 go_meet
                 case rel => exact ⟨_, (true), (by first | rfl | (simp; done) | (simp [*]; done) | (simp [bne]; done)), H', ⟨by have := HJ6.out; have := HJ14.out; have := HJ82.out; have := HJ91.out; first | omega | exact Nat.le_refl _⟩, ⟨by (with_reducible repeat (first | apply Kd.R_alloc | apply Kd.R_drewN | apply Kd.R_drew)); exact Kd.R_mono HO_3.out (fun _ hk => hk.1.2)⟩, ⟨by (with_reducible repeat (first | apply Kd.R_alloc | apply Kd.R_drewN | apply Kd.R_drew)); exact Kd.R_mono HO381.out (fun _ hk => hk.1.2)⟩, ⟨by (with_reducible repeat first | apply blk_drewN | apply blk_drew | apply blk_alloc); exact BK356.out⟩, ⟨by (with_reducible repeat first | apply blk_drewN | apply blk_drew | apply blk_alloc); exact BK357.out⟩, ⟨by (with_reducible repeat first | apply blk_drewN | apply blk_drew | apply blk_alloc); exact BK363.out⟩, ⟨by (with_reducible repeat first | apply blk_drewN | apply blk_drew | apply blk_alloc); exact BK364.out⟩, ⟨by (with_reducible repeat first | apply blk_drewN | apply blk_drew | apply blk_alloc); exact BK373.out⟩, ⟨by (with_reducible repeat first | apply blk_drewN | apply blk_drew | apply blk_alloc); exact BK377.out⟩, ⟨by repeat (first | (with_reducible first | exact HB.out | apply below_alloc | apply pw_below_drewN | apply below_drew1 | refine below_set ?_ GE356.out | refine below_set ?_ GE357.out | refine below_set ?_ GE363.out | refine below_set ?_ GE364.out | refine below_set ?_ GE373.out | refine below_set ?_ GE377.out) | exact HB.out)⟩⟩
               rw [if_neg c173] at H
               have c173b0 : (t379 != t383) = false := by simpa using c173
               (try (have c173b1 : decide (t379 = t383) = true := by simpa using c173))
               (try (have c173b2 : (t379 == t383) = true := by simpa using c173))
               clear c173
               (first | rw [c173b0] | (simp only [i64_w, i32_w]; rw [c173b0]) | skip)
               by_cases c174 : (t379 != t366) = true
               ·rw [if_pos c174] at H
                have c174b0 : (t379 != t366) = true := c174
                (try (have c174b1 : decide (t379 = t366) = false := by simpa using c174))
                (try (have c174b2 : (t379 == t366) = false := by simpa using c174))
                (try (have c174b3 : ¬ (t379 = t366) := by simpa using c174))
                clear c174
                as_aux_lemma =>
                 have H' := Aside0.mk H
                 clear H
                 go_wp2
                 go_meet
                 case rel => exact ⟨_, (true), (by first | rfl | (simp; done) | (simp [*]; done) | (simp [bne]; done)), H', ⟨by have := HJ6.out; have := HJ14.out; have := HJ82.out; have := HJ91.out; first | omega | exact Nat.le_refl _⟩, ⟨by (with_reducible repeat (first | apply Kd.R_alloc | apply Kd.R_drewN | apply Kd.R_drew)); exact Kd.R_mono HO_3.out (fun _ hk => hk.1.2)⟩, ⟨by (with_reducible repeat (first | apply Kd.R_alloc | apply Kd.R_drewN | apply Kd.R_drew)); exact Kd.R_mono HO381.out (fun _ hk => hk.1.2)⟩, ⟨by (with_reducible repeat first | apply blk_drewN | apply blk_drew | apply blk_alloc); exact BK356.out⟩, ⟨by (with_reducible repeat first | apply blk_drewN | apply blk_drew | apply blk_alloc); exact BK357.out⟩, ⟨by (with_reducible repeat first | apply blk_drewN | apply blk_drew | apply blk_alloc); exact BK363.out⟩, ⟨by (with_reducible repeat first | apply blk_drewN | apply blk_drew | apply blk_alloc); exact BK364.out⟩, ⟨by (with_reducible repeat first | apply blk_drewN | apply blk_drew | apply blk_alloc); exact BK373.out⟩, ⟨by (with_reducible repeat first | apply blk_drewN | apply blk_drew | apply blk_alloc); exact BK377.out⟩, ⟨by repeat (first | (with_reducible first | exact HB.out | apply below_alloc | apply pw_below_drewN | apply below_drew1 | refine below_set ?_ GE356.out | refine below_set ?_ GE357.out | refine below_set ?_ GE363.out | refine below_set ?_ GE364.out | refine below_set ?_ GE373.out | refine below_set ?_ GE377.out) | exact HB.out)⟩⟩
               rw [if_neg c174] at H
               have c174b0 : (t379 != t366) = false := by simpa using c174
               (try (have c174b1 : decide (t379 = t366) = true := by simpa using c174))
               (try (have c174b2 : (t379 == t366) = true := by simpa using c174))
               clear c174
               replace H := Option.bind_eq_some_iff.mp H
               obtain ⟨t386, A1750, H⟩ := H
               replace H : (laws_FnCentres.j4 kj91 l0 t342 t343 t344 t347 t348 t355 t365 t372 t378 (!t386) t351 t352 t353 t354 t370 t371) = some r := H
               have A175 := Aside0.mk A1750
               clear A1750
               as_aux_lemma =>
                have H' := Aside0.mk H
                clear H
                obtain ⟨Ao176, co176, eo176⟩ := Kd.R_slice HO381.out
                subst eo176
                obtain ⟨Ao177, co177, eo177⟩ := Kd.R_slice HO385.out
                subst eo177
                go_wp2_with (first | (go_at_call 26; (with_reducible refine (laws_rRow.calls kj91 _ _ t378 _ _ t382 t386 _ ?side1 ?side2 ?side3 ?side4 A175.out).mono ?_); (case side1 => repeat (first | exact (Kd.R_reads' HO381.out).2.2 | (with_reducible refine Kd.C_alloc ?_ _) | (with_reducible refine Kd.C_drewN ?_ _) | (with_reducible refine Kd.C_drew ?_))); (case side2 => exact (Kd.R_reads' HO381.out).2.1); (case side3 => repeat (first | exact (Kd.R_reads' HO385.out).2.2 | (with_reducible refine Kd.C_alloc ?_ _) | (with_reducible refine Kd.C_drewN ?_ _) | (with_reducible refine Kd.C_drew ?_))); (case side4 => exact (Kd.R_reads' HO385.out).2.1); rintro e w' ⟨rfl, ⟨nd, rfl⟩⟩))
                go_meet
                case rel => exact ⟨_, (!t386), (by first | rfl | (simp; done) | (simp [*]; done) | (simp [bne]; done)), H', ⟨by have := HJ6.out; have := HJ14.out; have := HJ82.out; have := HJ91.out; first | omega | exact Nat.le_refl _⟩, ⟨by (with_reducible repeat (first | apply Kd.R_alloc | apply Kd.R_drewN | apply Kd.R_drew)); exact Kd.R_mono HO_3.out (fun _ hk => hk.1.2)⟩, ⟨by (with_reducible repeat (first | apply Kd.R_alloc | apply Kd.R_drewN | apply Kd.R_drew)); exact Kd.R_mono HO381.out (fun _ hk => hk.1.2)⟩, ⟨by (with_reducible repeat first | apply blk_drewN | apply blk_drew | apply blk_alloc); exact BK356.out⟩, ⟨by (with_reducible repeat first | apply blk_drewN | apply blk_drew | apply blk_alloc); exact BK357.out⟩, ⟨by (with_reducible repeat first | apply blk_drewN | apply blk_drew | apply blk_alloc); exact BK363.out⟩, ⟨by (with_reducible repeat first | apply blk_drewN | apply blk_drew | apply blk_alloc); exact BK364.out⟩, ⟨by (with_reducible repeat first | apply blk_drewN | apply blk_drew | apply blk_alloc); exact BK373.out⟩, ⟨by (with_reducible repeat first | apply blk_drewN | apply blk_drew | apply blk_alloc); exact BK377.out⟩, ⟨by repeat (first | (with_reducible first | exact HB.out | apply below_alloc | apply pw_below_drewN | apply below_drew1 | refine below_set ?_ GE356.out | refine below_set ?_ GE357.out | refine below_set ?_ GE363.out | refine below_set ?_ GE364.out | refine below_set ?_ GE373.out | refine below_set ?_ GE377.out) | exact HB.out)⟩⟩
              case rest =>
               clear HC170
               obtain ⟨kq, x180_169, rfl, HA, HJ169, HO_3, HO_24, BK356, BK357, BK363, BK364, BK373, BK377, HB⟩ := hcut
               cases kq with
               | zero => exact absurd HA.out (by simp [laws_FnCentres.j4])
               | succ kj169 =>
                have H := HA.out
                clear HA
                simp only [laws_FnCentres.j4] at H
                by_cases c178 : x180_169 = true
                ·subst c178
                 have H1 : (some false) = some r := by rw [if_pos rfl] at H; exact H
                 clear H
                 have H := H1
                 clear H1
                 as_aux_lemma =>
                  obtain rfl := Option.some.inj H
                  go_wp2
                  go_ret
                  exact ⟨by first | rfl | (simp [errW_none, errW_some] <;> rfl) | (simp [*, errW_none, errW_some] <;> rfl), by repeat (first | (with_reducible first | exact HB.out | apply below_alloc | apply pw_below_drewN | apply below_drew1 | refine below_set ?_ GE356.out | refine below_set ?_ GE357.out | refine below_set ?_ GE363.out | refine below_set ?_ GE364.out | refine below_set ?_ GE373.out | refine below_set ?_ GE377.out) | exact HB.out)⟩
                replace c178 := Bool.eq_false_iff.mpr c178
                subst c178
                have H1 : ((spec_DrawMomentAbout.f kj169 l0).bind fun bt387 => ((impl_MomentAbout.f kj169 bt387.1 bt387.2).bind fun bt391 => ((spec_MomentAbout.f kj169 bt387.1 bt387.2).bind fun bt393 => (if bt391.1 = bt393.1 then (laws_FnCentres.j5 kj169 t342 t343 t344 t347 t348 t355 t365 t372 t378 (bt391.2 != bt393.2) t351 t352 t353 t354 t370 t371) else (laws_FnCentres.j5 kj169 t342 t343 t344 t347 t348 t355 t365 t372 t378 true t351 t352 t353 t354 t370 t371))))) = some r := by rw [if_neg (show ¬ (false = true) by decide)] at H; exact H
                clear H
                have H := H1
                clear H1
                replace H := Option.bind_eq_some_iff.mp H
                obtain ⟨⟨t387, t388⟩, A1790, H⟩ := H
                replace H : ((impl_MomentAbout.f kj169 t387 t388).bind fun bt391 => ((spec_MomentAbout.f kj169 t387 t388).bind fun bt393 => (if bt391.1 = bt393.1 then (laws_FnCentres.j5 kj169 t342 t343 t344 t347 t348 t355 t365 t372 t378 (bt391.2 != bt393.2) t351 t352 t353 t354 t370 t371) else (laws_FnCentres.j5 kj169 t342 t343 t344 t347 t348 t355 t365 t372 t378 true t351 t352 t353 t354 t370 t371)))) = some r := H
                have A179 := Aside0.mk A1790
                clear A1790
                replace H := Option.bind_eq_some_iff.mp H
                obtain ⟨⟨t391, t392⟩, A1800, H⟩ := H
                replace H : ((spec_MomentAbout.f kj169 t387 t388).bind fun bt393 => (if t391 = bt393.1 then (laws_FnCentres.j5 kj169 t342 t343 t344 t347 t348 t355 t365 t372 t378 (t392 != bt393.2) t351 t352 t353 t354 t370 t371) else (laws_FnCentres.j5 kj169 t342 t343 t344 t347 t348 t355 t365 t372 t378 true t351 t352 t353 t354 t370 t371))) = some r := H
                have A180 := Aside0.mk A1800
                clear A1800
                replace H := Option.bind_eq_some_iff.mp H
                obtain ⟨⟨t393, t394⟩, A1810, H⟩ := H
                replace H : (if t391 = t393 then (laws_FnCentres.j5 kj169 t342 t343 t344 t347 t348 t355 t365 t372 t378 (t392 != t394) t351 t352 t353 t354 t370 t371) else (laws_FnCentres.j5 kj169 t342 t343 t344 t347 t348 t355 t365 t372 t378 true t351 t352 t353 t354 t370 t371)) = some r := H
                have A181 := Aside0.mk A1810
                clear A1810
                have HC182 := Aside0.mk H
                clear H
                as_aux_lemma =>
                 go_upto_region 27 with (first | ((with_reducible refine gate_callee (f := 27) rfl ?_); refine goesL_ (some 183) rfl rfl Try.func27 (by kernel_rfl) rfl #[.slice A0 l0.length c0] rfl (by (try simp only [List.map_toArray, List.map_cons, List.map_nil]); first | done | rfl | (simp only [List.length_drop, List.length_take]; rfl)) ?_; (with_reducible refine (spec_DrawMomentAbout.calls kj169 _ _ l0 t387 t388 _ ?side1 ?side2 A179.out).mono ?_); (case side1 => repeat (first | exact (Kd.C_below HR0.out HB.out) | (with_reducible refine Kd.C_alloc ?_ _) | (with_reducible refine Kd.C_drewN ?_ _) | (with_reducible refine Kd.C_drew ?_))); (case side2 => exact HC0.out); rintro e w183 ⟨v389, rfl, ho0, hb⟩; refine ⟨_, rfl, ?_⟩; have n0_ := Aside0.mk (Kd.R_elder' (by (with_reducible repeat (first | apply Kd.R_alloc | apply Kd.R_drewN | apply Kd.R_drew)); exact HO_3.out) (Kd.R_base ho0) hb); have n1_ := Aside0.mk (Kd.R_elder' (by (with_reducible repeat (first | apply Kd.R_alloc | apply Kd.R_drewN | apply Kd.R_drew)); exact HO_24.out) (Kd.R_base ho0) hb); have n2_ := Aside0.mk (Kd.R_lower (Kd.R_new' (Kd.R_new' ho0 (Kd.R_lt (by (with_reducible repeat (first | apply Kd.R_alloc | apply Kd.R_drewN | apply Kd.R_drew)); exact HO_3.out))) (Kd.R_lt (by (with_reducible repeat (first | apply Kd.R_alloc | apply Kd.R_drewN | apply Kd.R_drew)); exact HO_24.out))) (below_size (by repeat (first | (with_reducible first | exact HB.out | apply below_alloc | apply pw_below_drewN | apply below_drew1 | refine below_set ?_ GE356.out | refine below_set ?_ GE357.out | refine below_set ?_ GE363.out | refine below_set ?_ GE364.out | refine below_set ?_ GE373.out | refine below_set ?_ GE377.out) | exact HB.out)))); have n3_ := Aside0.mk (blk_below (g := gb356) (o := .cells #[.int .i64 t351, .int .i64 t352] 36 (0, 0)) (by (with_reducible repeat first | apply blk_drewN | apply blk_drew | apply blk_alloc); exact BK356.out) hb); have n4_ := Aside0.mk (blk_below (g := gb357) (o := .cells #[.int .i64 t353, .int .i64 t354] 36 (0, 0)) (by (with_reducible repeat first | apply blk_drewN | apply blk_drew | apply blk_alloc); exact BK357.out) hb); have n5_ := Aside0.mk (blk_below (g := gb363) (o := .cells #[.int .i64 t358, .int .i64 t359] 36 (0, 0)) (by (with_reducible repeat first | apply blk_drewN | apply blk_drew | apply blk_alloc); exact BK363.out) hb); have n6_ := Aside0.mk (blk_below (g := gb364) (o := .cells #[.int .i64 t360, .int .i64 t361] 36 (0, 0)) (by (with_reducible repeat first | apply blk_drewN | apply blk_drew | apply blk_alloc); exact BK364.out) hb); have n7_ := Aside0.mk (blk_below (g := gb373) (o := .cells #[.int .i64 t370, .int .i64 t371] 36 (0, 0)) (by (with_reducible repeat first | apply blk_drewN | apply blk_drew | apply blk_alloc); exact BK373.out) hb); have n8_ := Aside0.mk (blk_below (g := gb377) (o := .cells #[.int .i64 t374, .int .i64 t375] 36 (0, 0)) (by (with_reducible repeat first | apply blk_drewN | apply blk_drew | apply blk_alloc); exact BK377.out) hb); have n9_ := Aside0.mk (below_step (by repeat (first | (with_reducible first | exact HB.out | apply below_alloc | apply pw_below_drewN | apply below_drew1 | refine below_set ?_ GE356.out | refine below_set ?_ GE357.out | refine below_set ?_ GE363.out | refine below_set ?_ GE364.out | refine below_set ?_ GE373.out | refine below_set ?_ GE377.out) | exact HB.out)) hb); clear HO_3; clear HO_24; clear BK356; clear BK357; clear BK363; clear BK364; clear BK373; clear BK377; clear HB; have HO_3 := n0_; have HO_24 := n1_; have HO390 := n2_; have BK356 := n3_; have BK357 := n4_; have BK363 := n5_; have BK364 := n6_; have BK373 := n7_; have BK377 := n8_; have HB := n9_; clear n0_ n1_ n2_ n3_ n4_ n5_ n6_ n7_ n8_ n9_; (try clear hb); (try clear hb2); (try clear hk); (try clear hi); (try clear ho0); obtain ⟨Ao184, co184, eo184⟩ := Kd.R_slice HO390.out; subst eo184) | ((with_reducible refine gate_callee (f := 28) rfl ?_); refine goesL_ (some 189) rfl rfl Try.func28 (by kernel_rfl) rfl #[.slice Ao184 t387.length co184, .int .i64 t388] rfl (by (try simp only [List.map_toArray, List.map_cons, List.map_nil]); first | done | rfl | (simp only [List.length_drop, List.length_take]; rfl)) ?_; (with_reducible refine (impl_MomentAbout.calls kj169 _ _ t387 t388 t391 t392 _ ?side1 ?side2 A180.out).mono ?_); (case side1 => repeat (first | exact (Kd.R_reads' HO390.out).2.2 | (with_reducible refine Kd.C_alloc ?_ _) | (with_reducible refine Kd.C_drewN ?_ _) | (with_reducible refine Kd.C_drew ?_))); (case side2 => exact (Kd.R_reads' HO390.out).2.1); rintro e w185 ⟨rfl, hb⟩; refine ⟨_, rfl, ?_⟩; have n0_ := Aside0.mk (Kd.R_below (by (with_reducible repeat (first | apply Kd.R_alloc | apply Kd.R_drewN | apply Kd.R_drew)); exact HO_3.out) hb); have n1_ := Aside0.mk (Kd.R_below (by (with_reducible repeat (first | apply Kd.R_alloc | apply Kd.R_drewN | apply Kd.R_drew)); exact HO_24.out) hb); have n2_ := Aside0.mk (Kd.R_below (by (with_reducible repeat (first | apply Kd.R_alloc | apply Kd.R_drewN | apply Kd.R_drew)); exact HO390.out) hb); have n3_ := Aside0.mk (blk_below (g := gb356) (o := .cells #[.int .i64 t351, .int .i64 t352] 36 (0, 0)) (by (with_reducible repeat first | apply blk_drewN | apply blk_drew | apply blk_alloc); exact BK356.out) hb); have n4_ := Aside0.mk (blk_below (g := gb357) (o := .cells #[.int .i64 t353, .int .i64 t354] 36 (0, 0)) (by (with_reducible repeat first | apply blk_drewN | apply blk_drew | apply blk_alloc); exact BK357.out) hb); have n5_ := Aside0.mk (blk_below (g := gb363) (o := .cells #[.int .i64 t358, .int .i64 t359] 36 (0, 0)) (by (with_reducible repeat first | apply blk_drewN | apply blk_drew | apply blk_alloc); exact BK363.out) hb); have n6_ := Aside0.mk (blk_below (g := gb364) (o := .cells #[.int .i64 t360, .int .i64 t361] 36 (0, 0)) (by (with_reducible repeat first | apply blk_drewN | apply blk_drew | apply blk_alloc); exact BK364.out) hb); have n7_ := Aside0.mk (blk_below (g := gb373) (o := .cells #[.int .i64 t370, .int .i64 t371] 36 (0, 0)) (by (with_reducible repeat first | apply blk_drewN | apply blk_drew | apply blk_alloc); exact BK373.out) hb); have n8_ := Aside0.mk (blk_below (g := gb377) (o := .cells #[.int .i64 t374, .int .i64 t375] 36 (0, 0)) (by (with_reducible repeat first | apply blk_drewN | apply blk_drew | apply blk_alloc); exact BK377.out) hb); have n9_ := Aside0.mk (below_step (by repeat (first | (with_reducible first | exact HB.out | apply below_alloc | apply pw_below_drewN | apply below_drew1 | refine below_set ?_ GE356.out | refine below_set ?_ GE357.out | refine below_set ?_ GE363.out | refine below_set ?_ GE364.out | refine below_set ?_ GE373.out | refine below_set ?_ GE377.out) | exact HB.out)) hb); clear HO_3; clear HO_24; clear HO390; clear BK356; clear BK357; clear BK363; clear BK364; clear BK373; clear BK377; clear HB; have HO_3 := n0_; have HO_24 := n1_; have HO390 := n2_; have BK356 := n3_; have BK357 := n4_; have BK363 := n5_; have BK364 := n6_; have BK373 := n7_; have BK377 := n8_; have HB := n9_; clear n0_ n1_ n2_ n3_ n4_ n5_ n6_ n7_ n8_ n9_; (try clear hb); (try clear hb2); (try clear hk); (try clear hi)) | ((with_reducible refine gate_callee (f := 29) rfl ?_); refine goesL_ (some 195) rfl rfl Try.func29 (by kernel_rfl) rfl #[.slice Ao184 t387.length co184, .int .i64 t388] rfl (by (try simp only [List.map_toArray, List.map_cons, List.map_nil]); first | done | rfl | (simp only [List.length_drop, List.length_take]; rfl)) ?_; (with_reducible refine (spec_MomentAbout.calls kj169 _ _ t387 t388 t393 t394 _ ?side1 ?side2 A181.out).mono ?_); (case side1 => repeat (first | exact (Kd.R_reads' HO390.out).2.2 | (with_reducible refine Kd.C_alloc ?_ _) | (with_reducible refine Kd.C_drewN ?_ _) | (with_reducible refine Kd.C_drew ?_))); (case side2 => exact (Kd.R_reads' HO390.out).2.1); rintro e w' ⟨rfl, ⟨nd, rfl⟩⟩; refine ⟨_, rfl, ?_⟩))
                 (try simp only [Act.put, List.setIfInBounds_toArray, List.set_cons_zero, List.set_cons_succ])
                 go_cut [205] (fun v205 wc => ∃ (kq : Nat) (x205_181 : Bool), v205 = .bool x205_181 ∧ Aside0 (laws_FnCentres.j5 kq t342 t343 t344 t347 t348 t355 t365 t372 t378 x205_181 t351 t352 t353 t354 t370 t371 = some r) ∧ Aside0 (kq ≤ kj169) ∧ Aside0 (Kd.R k33 33 wc w.heap.size (fun k_ => some k_ ≠ (v380 : Value).ownBlock) (.slice Ao9 t342.length co9) t342) ∧ Aside0 (Kd.R k33 33 wc w.heap.size (fun k_ => some k_ ≠ ((.slice Ao9 t342.length co9) : Value).ownBlock) v380 t378) ∧ Aside0 (wc.heap[gb356]? = some (.cells #[.int .i64 t351, .int .i64 t352] 36 (0, 0))) ∧ Aside0 (wc.heap[gb357]? = some (.cells #[.int .i64 t353, .int .i64 t354] 36 (0, 0))) ∧ Aside0 (wc.heap[gb363]? = some (.cells #[.int .i64 t358, .int .i64 t359] 36 (0, 0))) ∧ Aside0 (wc.heap[gb364]? = some (.cells #[.int .i64 t360, .int .i64 t361] 36 (0, 0))) ∧ Aside0 (wc.heap[gb373]? = some (.cells #[.int .i64 t370, .int .i64 t371] 36 (0, 0))) ∧ Aside0 (wc.heap[gb377]? = some (.cells #[.int .i64 t374, .int .i64 t375] 36 (0, 0))) ∧ Aside0 (Below w.heap.size w wc))
                 case first =>
                  have H := HC182.out
                  clear HC182
                  by_cases c186 : t391 = t393
                  rotate_left
                  ·rw [if_neg c186] at H
                   have c186b0 : (t391 == t393) = false := beq_eq_false_iff_ne.mpr c186
                   have c186b1 : (t391 != t393) = true := bne_iff_ne.mpr c186
                   (first | rw [c186b0] | (simp only [i64_w, i32_w]; rw [c186b0]) | skip)
                   as_aux_lemma =>
                    have H' := Aside0.mk H
                    clear H
                    go_wp2
                    go_meet
                    case rel => exact ⟨_, (true), (by first | rfl | (simp; done) | (simp [*]; done) | (simp [bne]; done)), H', ⟨by have := HJ6.out; have := HJ14.out; have := HJ82.out; have := HJ91.out; have := HJ169.out; first | omega | exact Nat.le_refl _⟩, ⟨by (with_reducible repeat (first | apply Kd.R_alloc | apply Kd.R_drewN | apply Kd.R_drew)); exact Kd.R_mono HO_3.out (fun _ hk => hk.1)⟩, ⟨by (with_reducible repeat (first | apply Kd.R_alloc | apply Kd.R_drewN | apply Kd.R_drew)); exact Kd.R_mono HO_24.out (fun _ hk => hk.1)⟩, ⟨by (with_reducible repeat first | apply blk_drewN | apply blk_drew | apply blk_alloc); exact BK356.out⟩, ⟨by (with_reducible repeat first | apply blk_drewN | apply blk_drew | apply blk_alloc); exact BK357.out⟩, ⟨by (with_reducible repeat first | apply blk_drewN | apply blk_drew | apply blk_alloc); exact BK363.out⟩, ⟨by (with_reducible repeat first | apply blk_drewN | apply blk_drew | apply blk_alloc); exact BK364.out⟩, ⟨by (with_reducible repeat first | apply blk_drewN | apply blk_drew | apply blk_alloc); exact BK373.out⟩, ⟨by (with_reducible repeat first | apply blk_drewN | apply blk_drew | apply blk_alloc); exact BK377.out⟩, ⟨by repeat (first | (with_reducible first | exact HB.out | apply below_alloc | apply pw_below_drewN | apply below_drew1 | refine below_set ?_ GE356.out | refine below_set ?_ GE357.out | refine below_set ?_ GE363.out | refine below_set ?_ GE364.out | refine below_set ?_ GE373.out | refine below_set ?_ GE377.out) | exact HB.out)⟩⟩
                  rw [if_pos c186] at H
                  have c186b0 : (t391 == t393) = true := beq_iff_eq.mpr c186
                  have c186b1 : (t391 != t393) = false := bne_eq_false_iff_eq.mpr c186
                  clear c186
                  (first | rw [c186b0] | (simp only [i64_w, i32_w]; rw [c186b0]) | skip)
                  as_aux_lemma =>
                   have H' := Aside0.mk H
                   clear H
                   go_wp2
                   go_meet
                   case rel => exact ⟨_, ((t392 != t394)), (by first | rfl | (simp; done) | (simp [*]; done) | (simp [bne]; done)), H', ⟨by have := HJ6.out; have := HJ14.out; have := HJ82.out; have := HJ91.out; have := HJ169.out; first | omega | exact Nat.le_refl _⟩, ⟨by (with_reducible repeat (first | apply Kd.R_alloc | apply Kd.R_drewN | apply Kd.R_drew)); exact Kd.R_mono HO_3.out (fun _ hk => hk.1)⟩, ⟨by (with_reducible repeat (first | apply Kd.R_alloc | apply Kd.R_drewN | apply Kd.R_drew)); exact Kd.R_mono HO_24.out (fun _ hk => hk.1)⟩, ⟨by (with_reducible repeat first | apply blk_drewN | apply blk_drew | apply blk_alloc); exact BK356.out⟩, ⟨by (with_reducible repeat first | apply blk_drewN | apply blk_drew | apply blk_alloc); exact BK357.out⟩, ⟨by (with_reducible repeat first | apply blk_drewN | apply blk_drew | apply blk_alloc); exact BK363.out⟩, ⟨by (with_reducible repeat first | apply blk_drewN | apply blk_drew | apply blk_alloc); exact BK364.out⟩, ⟨by (with_reducible repeat first | apply blk_drewN | apply blk_drew | apply blk_alloc); exact BK373.out⟩, ⟨by (with_reducible repeat first | apply blk_drewN | apply blk_drew | apply blk_alloc); exact BK377.out⟩, ⟨by repeat (first | (with_reducible first | exact HB.out | apply below_alloc | apply pw_below_drewN | apply below_drew1 | refine below_set ?_ GE356.out | refine below_set ?_ GE357.out | refine below_set ?_ GE363.out | refine below_set ?_ GE364.out | refine below_set ?_ GE373.out | refine below_set ?_ GE377.out) | exact HB.out)⟩⟩
                 case rest =>
                  clear HC182
                  obtain ⟨kq, x205_181, rfl, HA, HJ181, HO_3, HO_24, BK356, BK357, BK363, BK364, BK373, BK377, HB⟩ := hcut
                  cases kq with
                  | zero => exact absurd HA.out (by simp [laws_FnCentres.j5])
                  | succ kj181 =>
                   have H := HA.out
                   clear HA
                   simp only [laws_FnCentres.j5] at H
                   by_cases c187 : x205_181 = true
                   ·subst c187
                    have H1 : (some false) = some r := by rw [if_pos rfl] at H; exact H
                    clear H
                    have H := H1
                    clear H1
                    as_aux_lemma =>
                     obtain rfl := Option.some.inj H
                     go_wp2
                     go_ret
                     exact ⟨by first | rfl | (simp [errW_none, errW_some] <;> rfl) | (simp [*, errW_none, errW_some] <;> rfl), by repeat (first | (with_reducible first | exact HB.out | apply below_alloc | apply pw_below_drewN | apply below_drew1 | refine below_set ?_ GE356.out | refine below_set ?_ GE357.out | refine below_set ?_ GE363.out | refine below_set ?_ GE364.out | refine below_set ?_ GE373.out | refine below_set ?_ GE377.out) | exact HB.out)⟩
                   replace c187 := Bool.eq_false_iff.mpr c187
                   subst c187
                   have H1 : ((impl_NarrowBase.f kj181 t342).bind fun bt395 => ((spec_NarrowBase.f kj181 t342).bind fun bt398 => (if bt395.1 = bt398.1 then (if bt395.2.1 = bt398.2.1 then (if (bt395.2.2 != bt398.2.2) = true then (laws_FnCentres.j6 kj181 t342 t343 t344 t347 t348 t355 t365 t372 t378 bt395.1 bt395.2.1 true t351 t352 t353 t354 t370 t371) else (laws_FnCentres.j6 kj181 t342 t343 t344 t347 t348 t355 t365 t372 t378 bt395.1 bt395.2.1 (bt395.2.2 != t372) t351 t352 t353 t354 t370 t371)) else (laws_FnCentres.j6 kj181 t342 t343 t344 t347 t348 t355 t365 t372 t378 bt395.1 bt395.2.1 true t351 t352 t353 t354 t370 t371)) else (laws_FnCentres.j6 kj181 t342 t343 t344 t347 t348 t355 t365 t372 t378 bt395.1 bt395.2.1 true t351 t352 t353 t354 t370 t371)))) = some r := by rw [if_neg (show ¬ (false = true) by decide)] at H; exact H
                   clear H
                   have H := H1
                   clear H1
                   replace H := Option.bind_eq_some_iff.mp H
                   obtain ⟨⟨t395, t396, t397⟩, A1880, H⟩ := H
                   replace H : ((spec_NarrowBase.f kj181 t342).bind fun bt398 => (if t395 = bt398.1 then (if t396 = bt398.2.1 then (if (t397 != bt398.2.2) = true then (laws_FnCentres.j6 kj181 t342 t343 t344 t347 t348 t355 t365 t372 t378 t395 t396 true t351 t352 t353 t354 t370 t371) else (laws_FnCentres.j6 kj181 t342 t343 t344 t347 t348 t355 t365 t372 t378 t395 t396 (t397 != t372) t351 t352 t353 t354 t370 t371)) else (laws_FnCentres.j6 kj181 t342 t343 t344 t347 t348 t355 t365 t372 t378 t395 t396 true t351 t352 t353 t354 t370 t371)) else (laws_FnCentres.j6 kj181 t342 t343 t344 t347 t348 t355 t365 t372 t378 t395 t396 true t351 t352 t353 t354 t370 t371))) = some r := H
                   have A188 := Aside0.mk A1880
                   clear A1880
                   replace H := Option.bind_eq_some_iff.mp H
                   obtain ⟨⟨t398, t399, t400⟩, A1890, H⟩ := H
                   replace H : (if t395 = t398 then (if t396 = t399 then (if (t397 != t400) = true then (laws_FnCentres.j6 kj181 t342 t343 t344 t347 t348 t355 t365 t372 t378 t395 t396 true t351 t352 t353 t354 t370 t371) else (laws_FnCentres.j6 kj181 t342 t343 t344 t347 t348 t355 t365 t372 t378 t395 t396 (t397 != t372) t351 t352 t353 t354 t370 t371)) else (laws_FnCentres.j6 kj181 t342 t343 t344 t347 t348 t355 t365 t372 t378 t395 t396 true t351 t352 t353 t354 t370 t371)) else (laws_FnCentres.j6 kj181 t342 t343 t344 t347 t348 t355 t365 t372 t378 t395 t396 true t351 t352 t353 t354 t370 t371)) = some r := H
                   have A189 := Aside0.mk A1890
                   clear A1890
                   have HC190 := Aside0.mk H
                   clear H
                   as_aux_lemma =>
                    go_upto_region 31 with (first | ((with_reducible refine gate_callee (f := 30) rfl ?_); refine goesL_ (some 208) rfl rfl Try.func30 (by kernel_rfl) rfl #[.slice Ao9 t342.length co9] rfl (by (try simp only [List.map_toArray, List.map_cons, List.map_nil]); first | done | rfl | (simp only [List.length_drop, List.length_take]; rfl)) ?_; (with_reducible refine (impl_NarrowBase.calls kj181 _ _ t342 t395 t396 t397 _ ?side1 ?side2 A188.out).mono ?_); (case side1 => repeat (first | exact (Kd.R_reads' HO_3.out).2.2 | (with_reducible refine Kd.C_alloc ?_ _) | (with_reducible refine Kd.C_drewN ?_ _) | (with_reducible refine Kd.C_drew ?_))); (case side2 => exact (Kd.R_reads' HO_3.out).2.1); rintro e w191 ⟨rfl, hb⟩; refine ⟨_, rfl, ?_⟩; have n0_ := Aside0.mk (Kd.R_below (by (with_reducible repeat (first | apply Kd.R_alloc | apply Kd.R_drewN | apply Kd.R_drew)); exact HO_3.out) hb); have n1_ := Aside0.mk (Kd.R_below (by (with_reducible repeat (first | apply Kd.R_alloc | apply Kd.R_drewN | apply Kd.R_drew)); exact HO_24.out) hb); have n2_ := Aside0.mk (blk_below (g := gb356) (o := .cells #[.int .i64 t351, .int .i64 t352] 36 (0, 0)) (by (with_reducible repeat first | apply blk_drewN | apply blk_drew | apply blk_alloc); exact BK356.out) hb); have n3_ := Aside0.mk (blk_below (g := gb357) (o := .cells #[.int .i64 t353, .int .i64 t354] 36 (0, 0)) (by (with_reducible repeat first | apply blk_drewN | apply blk_drew | apply blk_alloc); exact BK357.out) hb); have n4_ := Aside0.mk (blk_below (g := gb363) (o := .cells #[.int .i64 t358, .int .i64 t359] 36 (0, 0)) (by (with_reducible repeat first | apply blk_drewN | apply blk_drew | apply blk_alloc); exact BK363.out) hb); have n5_ := Aside0.mk (blk_below (g := gb364) (o := .cells #[.int .i64 t360, .int .i64 t361] 36 (0, 0)) (by (with_reducible repeat first | apply blk_drewN | apply blk_drew | apply blk_alloc); exact BK364.out) hb); have n6_ := Aside0.mk (blk_below (g := gb373) (o := .cells #[.int .i64 t370, .int .i64 t371] 36 (0, 0)) (by (with_reducible repeat first | apply blk_drewN | apply blk_drew | apply blk_alloc); exact BK373.out) hb); have n7_ := Aside0.mk (blk_below (g := gb377) (o := .cells #[.int .i64 t374, .int .i64 t375] 36 (0, 0)) (by (with_reducible repeat first | apply blk_drewN | apply blk_drew | apply blk_alloc); exact BK377.out) hb); have n8_ := Aside0.mk (below_step (by repeat (first | (with_reducible first | exact HB.out | apply below_alloc | apply pw_below_drewN | apply below_drew1 | refine below_set ?_ GE356.out | refine below_set ?_ GE357.out | refine below_set ?_ GE363.out | refine below_set ?_ GE364.out | refine below_set ?_ GE373.out | refine below_set ?_ GE377.out) | exact HB.out)) hb); clear HO_3; clear HO_24; clear BK356; clear BK357; clear BK363; clear BK364; clear BK373; clear BK377; clear HB; have HO_3 := n0_; have HO_24 := n1_; have BK356 := n2_; have BK357 := n3_; have BK363 := n4_; have BK364 := n5_; have BK373 := n6_; have BK377 := n7_; have HB := n8_; clear n0_ n1_ n2_ n3_ n4_ n5_ n6_ n7_ n8_; (try clear hb); (try clear hb2); (try clear hk); (try clear hi)) | ((with_reducible refine gate_callee (f := 31) rfl ?_); refine goesL_ (some 214) rfl rfl Try.func31 (by kernel_rfl) rfl #[.slice Ao9 t342.length co9] rfl (by (try simp only [List.map_toArray, List.map_cons, List.map_nil]); first | done | rfl | (simp only [List.length_drop, List.length_take]; rfl)) ?_; (with_reducible refine (spec_NarrowBase.calls kj181 _ _ t342 t398 t399 t400 _ ?side1 ?side2 A189.out).mono ?_); (case side1 => repeat (first | exact (Kd.R_reads' HO_3.out).2.2 | (with_reducible refine Kd.C_alloc ?_ _) | (with_reducible refine Kd.C_drewN ?_ _) | (with_reducible refine Kd.C_drew ?_))); (case side2 => exact (Kd.R_reads' HO_3.out).2.1); rintro e w' ⟨rfl, ⟨nd, rfl⟩⟩; refine ⟨_, rfl, ?_⟩))
                    (try simp only [Act.put, List.setIfInBounds_toArray, List.set_cons_zero, List.set_cons_succ])
                    go_cut [235] (fun v235 wc => ∃ (kq : Nat) (x235_189 : Bool), v235 = .bool x235_189 ∧ Aside0 (laws_FnCentres.j6 kq t342 t343 t344 t347 t348 t355 t365 t372 t378 t395 t396 x235_189 t351 t352 t353 t354 t370 t371 = some r) ∧ Aside0 (kq ≤ kj181) ∧ Aside0 (Kd.R k33 33 wc w.heap.size (fun k_ => some k_ ≠ (v380 : Value).ownBlock) (.slice Ao9 t342.length co9) t342) ∧ Aside0 (Kd.R k33 33 wc w.heap.size (fun k_ => some k_ ≠ ((.slice Ao9 t342.length co9) : Value).ownBlock) v380 t378) ∧ Aside0 (wc.heap[gb356]? = some (.cells #[.int .i64 t351, .int .i64 t352] 36 (0, 0))) ∧ Aside0 (wc.heap[gb357]? = some (.cells #[.int .i64 t353, .int .i64 t354] 36 (0, 0))) ∧ Aside0 (wc.heap[gb363]? = some (.cells #[.int .i64 t358, .int .i64 t359] 36 (0, 0))) ∧ Aside0 (wc.heap[gb364]? = some (.cells #[.int .i64 t360, .int .i64 t361] 36 (0, 0))) ∧ Aside0 (wc.heap[gb373]? = some (.cells #[.int .i64 t370, .int .i64 t371] 36 (0, 0))) ∧ Aside0 (wc.heap[gb377]? = some (.cells #[.int .i64 t374, .int .i64 t375] 36 (0, 0))) ∧ Aside0 (Below w.heap.size w wc))
                    case first =>
                     have H := HC190.out
                     clear HC190
                     by_cases c192 : t395 = t398
                     rotate_left
                     ·rw [if_neg c192] at H
                      have c192b0 : (t395 == t398) = false := beq_eq_false_iff_ne.mpr c192
                      have c192b1 : (t395 != t398) = true := bne_iff_ne.mpr c192
                      (first | rw [c192b0] | (simp only [i64_w, i32_w]; rw [c192b0]) | skip)
                      as_aux_lemma =>
                       have H' := Aside0.mk H
                       clear H
                       go_wp2
                       go_meet
                       case rel => exact ⟨_, (true), (by first | rfl | (simp; done) | (simp [*]; done) | (simp [bne]; done)), H', ⟨by have := HJ6.out; have := HJ14.out; have := HJ82.out; have := HJ91.out; have := HJ169.out; have := HJ181.out; first | omega | exact Nat.le_refl _⟩, ⟨by (with_reducible repeat (first | apply Kd.R_alloc | apply Kd.R_drewN | apply Kd.R_drew)); exact HO_3.out⟩, ⟨by (with_reducible repeat (first | apply Kd.R_alloc | apply Kd.R_drewN | apply Kd.R_drew)); exact HO_24.out⟩, ⟨by (with_reducible repeat first | apply blk_drewN | apply blk_drew | apply blk_alloc); exact BK356.out⟩, ⟨by (with_reducible repeat first | apply blk_drewN | apply blk_drew | apply blk_alloc); exact BK357.out⟩, ⟨by (with_reducible repeat first | apply blk_drewN | apply blk_drew | apply blk_alloc); exact BK363.out⟩, ⟨by (with_reducible repeat first | apply blk_drewN | apply blk_drew | apply blk_alloc); exact BK364.out⟩, ⟨by (with_reducible repeat first | apply blk_drewN | apply blk_drew | apply blk_alloc); exact BK373.out⟩, ⟨by (with_reducible repeat first | apply blk_drewN | apply blk_drew | apply blk_alloc); exact BK377.out⟩, ⟨by repeat (first | (with_reducible first | exact HB.out | apply below_alloc | apply pw_below_drewN | apply below_drew1 | refine below_set ?_ GE356.out | refine below_set ?_ GE357.out | refine below_set ?_ GE363.out | refine below_set ?_ GE364.out | refine below_set ?_ GE373.out | refine below_set ?_ GE377.out) | exact HB.out)⟩⟩
                     rw [if_pos c192] at H
                     have c192b0 : (t395 == t398) = true := beq_iff_eq.mpr c192
                     have c192b1 : (t395 != t398) = false := bne_eq_false_iff_eq.mpr c192
                     clear c192
                     (first | rw [c192b0] | (simp only [i64_w, i32_w]; rw [c192b0]) | skip)
                     by_cases c193 : t396 = t399
                     rotate_left
                     ·rw [if_neg c193] at H
                      have c193b0 : (t396 == t399) = false := beq_eq_false_iff_ne.mpr c193
                      have c193b1 : (t396 != t399) = true := bne_iff_ne.mpr c193
                      as_aux_lemma =>
                       have H' := Aside0.mk H
                       clear H
                       go_wp2
                       go_meet
                       case rel => exact ⟨_, (true), (by first | rfl | (simp; done) | (simp [*]; done) | (simp [bne]; done)), H', ⟨by have := HJ6.out; have := HJ14.out; have := HJ82.out; have := HJ91.out; have := HJ169.out; have := HJ181.out; first | omega | exact Nat.le_refl _⟩, ⟨by (with_reducible repeat (first | apply Kd.R_alloc | apply Kd.R_drewN | apply Kd.R_drew)); exact HO_3.out⟩, ⟨by (with_reducible repeat (first | apply Kd.R_alloc | apply Kd.R_drewN | apply Kd.R_drew)); exact HO_24.out⟩, ⟨by (with_reducible repeat first | apply blk_drewN | apply blk_drew | apply blk_alloc); exact BK356.out⟩, ⟨by (with_reducible repeat first | apply blk_drewN | apply blk_drew | apply blk_alloc); exact BK357.out⟩, ⟨by (with_reducible repeat first | apply blk_drewN | apply blk_drew | apply blk_alloc); exact BK363.out⟩, ⟨by (with_reducible repeat first | apply blk_drewN | apply blk_drew | apply blk_alloc); exact BK364.out⟩, ⟨by (with_reducible repeat first | apply blk_drewN | apply blk_drew | apply blk_alloc); exact BK373.out⟩, ⟨by (with_reducible repeat first | apply blk_drewN | apply blk_drew | apply blk_alloc); exact BK377.out⟩, ⟨by repeat (first | (with_reducible first | exact HB.out | apply below_alloc | apply pw_below_drewN | apply below_drew1 | refine below_set ?_ GE356.out | refine below_set ?_ GE357.out | refine below_set ?_ GE363.out | refine below_set ?_ GE364.out | refine below_set ?_ GE373.out | refine below_set ?_ GE377.out) | exact HB.out)⟩⟩
                     rw [if_pos c193] at H
                     have c193b0 : (t396 == t399) = true := beq_iff_eq.mpr c193
                     have c193b1 : (t396 != t399) = false := bne_eq_false_iff_eq.mpr c193
                     clear c193
                     by_cases c194 : (t397 != t400) = true
                     rotate_left
                     ·rw [if_neg c194] at H
                      have c194b0 : (t397 != t400) = false := by simpa using c194
                      (try (have c194b1 : decide (t397 = t400) = true := by simpa using c194))
                      (try (have c194b2 : (t397 == t400) = true := by simpa using c194))
                      clear c194
                      as_aux_lemma =>
                       have H' := Aside0.mk H
                       clear H
                       go_wp2
                       go_meet
                       case rel => exact ⟨_, ((t397 != t372)), (by first | rfl | (simp; done) | (simp [*]; done) | (simp [bne]; done)), H', ⟨by have := HJ6.out; have := HJ14.out; have := HJ82.out; have := HJ91.out; have := HJ169.out; have := HJ181.out; first | omega | exact Nat.le_refl _⟩, ⟨by (with_reducible repeat (first | apply Kd.R_alloc | apply Kd.R_drewN | apply Kd.R_drew)); exact HO_3.out⟩, ⟨by (with_reducible repeat (first | apply Kd.R_alloc | apply Kd.R_drewN | apply Kd.R_drew)); exact HO_24.out⟩, ⟨by (with_reducible repeat first | apply blk_drewN | apply blk_drew | apply blk_alloc); exact BK356.out⟩, ⟨by (with_reducible repeat first | apply blk_drewN | apply blk_drew | apply blk_alloc); exact BK357.out⟩, ⟨by (with_reducible repeat first | apply blk_drewN | apply blk_drew | apply blk_alloc); exact BK363.out⟩, ⟨by (with_reducible repeat first | apply blk_drewN | apply blk_drew | apply blk_alloc); exact BK364.out⟩, ⟨by (with_reducible repeat first | apply blk_drewN | apply blk_drew | apply blk_alloc); exact BK373.out⟩, ⟨by (with_reducible repeat first | apply blk_drewN | apply blk_drew | apply blk_alloc); exact BK377.out⟩, ⟨by repeat (first | (with_reducible first | exact HB.out | apply below_alloc | apply pw_below_drewN | apply below_drew1 | refine below_set ?_ GE356.out | refine below_set ?_ GE357.out | refine below_set ?_ GE363.out | refine below_set ?_ GE364.out | refine below_set ?_ GE373.out | refine below_set ?_ GE377.out) | exact HB.out)⟩⟩
                     rw [if_pos c194] at H
                     have c194b0 : (t397 != t400) = true := c194
                     (try (have c194b1 : decide (t397 = t400) = false := by simpa using c194))
                     (try (have c194b2 : (t397 == t400) = false := by simpa using c194))
                     (try (have c194b3 : ¬ (t397 = t400) := by simpa using c194))
                     clear c194
                     as_aux_lemma =>
                      have H' := Aside0.mk H
                      clear H
                      go_wp2
                      go_meet
                      case rel => exact ⟨_, (true), (by first | rfl | (simp; done) | (simp [*]; done) | (simp [bne]; done)), H', ⟨by have := HJ6.out; have := HJ14.out; have := HJ82.out; have := HJ91.out; have := HJ169.out; have := HJ181.out; first | omega | exact Nat.le_refl _⟩, ⟨by (with_reducible repeat (first | apply Kd.R_alloc | apply Kd.R_drewN | apply Kd.R_drew)); exact HO_3.out⟩, ⟨by (with_reducible repeat (first | apply Kd.R_alloc | apply Kd.R_drewN | apply Kd.R_drew)); exact HO_24.out⟩, ⟨by (with_reducible repeat first | apply blk_drewN | apply blk_drew | apply blk_alloc); exact BK356.out⟩, ⟨by (with_reducible repeat first | apply blk_drewN | apply blk_drew | apply blk_alloc); exact BK357.out⟩, ⟨by (with_reducible repeat first | apply blk_drewN | apply blk_drew | apply blk_alloc); exact BK363.out⟩, ⟨by (with_reducible repeat first | apply blk_drewN | apply blk_drew | apply blk_alloc); exact BK364.out⟩, ⟨by (with_reducible repeat first | apply blk_drewN | apply blk_drew | apply blk_alloc); exact BK373.out⟩, ⟨by (with_reducible repeat first | apply blk_drewN | apply blk_drew | apply blk_alloc); exact BK377.out⟩, ⟨by repeat (first | (with_reducible first | exact HB.out | apply below_alloc | apply pw_below_drewN | apply below_drew1 | refine below_set ?_ GE356.out | refine below_set ?_ GE357.out | refine below_set ?_ GE363.out | refine below_set ?_ GE364.out | refine below_set ?_ GE373.out | refine below_set ?_ GE377.out) | exact HB.out)⟩⟩
                    case rest =>
                     clear HC190
                     obtain ⟨kq, x235_189, rfl, HA, HJ189, HO_3, HO_24, BK356, BK357, BK363, BK364, BK373, BK377, HB⟩ := hcut
                     cases kq with
                     | zero => exact absurd HA.out (by simp [laws_FnCentres.j6])
                     | succ kj189 =>
                      have H := HA.out
                      clear HA
                      simp only [laws_FnCentres.j6] at H
                      by_cases c195 : x235_189 = true
                      ·subst c195
                       have H1 : (some false) = some r := by rw [if_pos rfl] at H; exact H
                       clear H
                       have H := H1
                       clear H1
                       as_aux_lemma =>
                        obtain rfl := Option.some.inj H
                        go_wp2
                        go_ret
                        exact ⟨by first | rfl | (simp [errW_none, errW_some] <;> rfl) | (simp [*, errW_none, errW_some] <;> rfl), by repeat (first | (with_reducible first | exact HB.out | apply below_alloc | apply pw_below_drewN | apply below_drew1 | refine below_set ?_ GE356.out | refine below_set ?_ GE357.out | refine below_set ?_ GE363.out | refine below_set ?_ GE364.out | refine below_set ?_ GE373.out | refine below_set ?_ GE377.out) | exact HB.out)⟩
                      replace c195 := Bool.eq_false_iff.mpr c195
                      subst c195
                      have H1 : (if t355 = true then (if t352 < 1 then (laws_FnCentres.j7 kj189 t342 t343 t344 t347 t348 t372 t378 t395 t396 true t370 t371) else (if t354 < 1 then (laws_FnCentres.j7 kj189 t342 t343 t344 t347 t348 t372 t378 t395 t396 true t370 t371) else (if t351 ≥ 0 then (if ((decide (t353 ≥ 0)) != (t347 == 0)) = true then (laws_FnCentres.j7 kj189 t342 t343 t344 t347 t348 t372 t378 t395 t396 true t370 t371) else (laws_FnCentres.j7 kj189 t342 t343 t344 t347 t348 t372 t378 t395 t396 ((wrap64 ((wrap64 (t351 * t354)) + (wrap64 (t353 * t352)))) != (wrap64 ((wrap64 (t365 * t352)) * t354))) t370 t371)) else (if (false != (t347 == 0)) = true then (laws_FnCentres.j7 kj189 t342 t343 t344 t347 t348 t372 t378 t395 t396 true t370 t371) else (laws_FnCentres.j7 kj189 t342 t343 t344 t347 t348 t372 t378 t395 t396 ((wrap64 ((wrap64 (t351 * t354)) + (wrap64 (t353 * t352)))) != (wrap64 ((wrap64 (t365 * t352)) * t354))) t370 t371))))) else (laws_FnCentres.j7 kj189 t342 t343 t344 t347 t348 t372 t378 t395 t396 false t370 t371)) = some r := by rw [if_neg (show ¬ (false = true) by decide)] at H; exact H
                      clear H
                      have H := H1
                      clear H1
                      have HC196 := Aside0.mk H
                      clear H
                      as_aux_lemma =>
                       go_upto_region 33 with (fail)
                       go_cut [280] (fun v280 wc => ∃ (kq : Nat) (x280_195 : Bool), v280 = .bool x280_195 ∧ Aside0 (laws_FnCentres.j7 kq t342 t343 t344 t347 t348 t372 t378 t395 t396 x280_195 t370 t371 = some r) ∧ Aside0 (kq ≤ kj189) ∧ Aside0 (Kd.R k33 33 wc w.heap.size (fun k_ => some k_ ≠ (v380 : Value).ownBlock) (.slice Ao9 t342.length co9) t342) ∧ Aside0 (Kd.R k33 33 wc w.heap.size (fun k_ => some k_ ≠ ((.slice Ao9 t342.length co9) : Value).ownBlock) v380 t378) ∧ Aside0 (wc.heap[gb356]? = some (.cells #[.int .i64 t351, .int .i64 t352] 36 (0, 0))) ∧ Aside0 (wc.heap[gb357]? = some (.cells #[.int .i64 t353, .int .i64 t354] 36 (0, 0))) ∧ Aside0 (wc.heap[gb363]? = some (.cells #[.int .i64 t358, .int .i64 t359] 36 (0, 0))) ∧ Aside0 (wc.heap[gb364]? = some (.cells #[.int .i64 t360, .int .i64 t361] 36 (0, 0))) ∧ Aside0 (wc.heap[gb373]? = some (.cells #[.int .i64 t370, .int .i64 t371] 36 (0, 0))) ∧ Aside0 (wc.heap[gb377]? = some (.cells #[.int .i64 t374, .int .i64 t375] 36 (0, 0))) ∧ Aside0 (Below w.heap.size w wc))
                       case first =>
                        have H := HC196.out
                        clear HC196
                        by_cases c197 : t355 = true
                        rotate_left
                        ·replace c197 := Bool.eq_false_iff.mpr c197
                         subst c197
                         have H1 : (laws_FnCentres.j7 kj189 t342 t343 t344 t347 t348 t372 t378 t395 t396 false t370 t371) = some r := by rw [if_neg (show ¬ (false = true) by decide)] at H; exact H
                         clear H
                         have H := H1
                         clear H1
                         as_aux_lemma =>
                          have H' := Aside0.mk H
                          clear H
                          go_wp2
                          go_meet
                          case rel => exact ⟨_, (false), (by first | rfl | (simp; done) | (simp [*]; done) | (simp [bne]; done)), H', ⟨by have := HJ6.out; have := HJ14.out; have := HJ82.out; have := HJ91.out; have := HJ169.out; have := HJ181.out; have := HJ189.out; first | omega | exact Nat.le_refl _⟩, ⟨by (with_reducible repeat (first | apply Kd.R_alloc | apply Kd.R_drewN | apply Kd.R_drew)); exact HO_3.out⟩, ⟨by (with_reducible repeat (first | apply Kd.R_alloc | apply Kd.R_drewN | apply Kd.R_drew)); exact HO_24.out⟩, ⟨by (with_reducible repeat first | apply blk_drewN | apply blk_drew | apply blk_alloc); exact BK356.out⟩, ⟨by (with_reducible repeat first | apply blk_drewN | apply blk_drew | apply blk_alloc); exact BK357.out⟩, ⟨by (with_reducible repeat first | apply blk_drewN | apply blk_drew | apply blk_alloc); exact BK363.out⟩, ⟨by (with_reducible repeat first | apply blk_drewN | apply blk_drew | apply blk_alloc); exact BK364.out⟩, ⟨by (with_reducible repeat first | apply blk_drewN | apply blk_drew | apply blk_alloc); exact BK373.out⟩, ⟨by (with_reducible repeat first | apply blk_drewN | apply blk_drew | apply blk_alloc); exact BK377.out⟩, ⟨by repeat (first | (with_reducible first | exact HB.out | apply below_alloc | apply pw_below_drewN | apply below_drew1 | refine below_set ?_ GE356.out | refine below_set ?_ GE357.out | refine below_set ?_ GE363.out | refine below_set ?_ GE364.out | refine below_set ?_ GE373.out | refine below_set ?_ GE377.out) | exact HB.out)⟩⟩
                        subst c197
                        have H1 : (if t352 < 1 then (laws_FnCentres.j7 kj189 t342 t343 t344 t347 t348 t372 t378 t395 t396 true t370 t371) else (if t354 < 1 then (laws_FnCentres.j7 kj189 t342 t343 t344 t347 t348 t372 t378 t395 t396 true t370 t371) else (if t351 ≥ 0 then (if ((decide (t353 ≥ 0)) != (t347 == 0)) = true then (laws_FnCentres.j7 kj189 t342 t343 t344 t347 t348 t372 t378 t395 t396 true t370 t371) else (laws_FnCentres.j7 kj189 t342 t343 t344 t347 t348 t372 t378 t395 t396 ((wrap64 ((wrap64 (t351 * t354)) + (wrap64 (t353 * t352)))) != (wrap64 ((wrap64 (t365 * t352)) * t354))) t370 t371)) else (if (false != (t347 == 0)) = true then (laws_FnCentres.j7 kj189 t342 t343 t344 t347 t348 t372 t378 t395 t396 true t370 t371) else (laws_FnCentres.j7 kj189 t342 t343 t344 t347 t348 t372 t378 t395 t396 ((wrap64 ((wrap64 (t351 * t354)) + (wrap64 (t353 * t352)))) != (wrap64 ((wrap64 (t365 * t352)) * t354))) t370 t371))))) = some r := by rw [if_pos rfl] at H; exact H
                        clear H
                        have H := H1
                        clear H1
                        by_cases c198 : t352 < 1
                        ·rw [if_pos c198] at H
                         have c198b0 : decide (t352 < 1) = true := decide_eq_true c198
                         clear c198
                         (first | rw [c198b0] | (simp only [i64_w, i32_w]; rw [c198b0]) | skip)
                         as_aux_lemma =>
                          have H' := Aside0.mk H
                          clear H; have hnb199 := NB356_357.out; have hnc199 := NB357_356.out; have hnb200 := NB356_363.out; have hnc200 := NB363_356.out; have hnb201 := NB356_364.out; have hnc201 := NB364_356.out; have hnb202 := NB356_373.out; have hnc202 := NB373_356.out; have hnb203 := NB356_377.out; have hnc203 := NB377_356.out
                          have hcz204_0 : wc.cell? ⟨gb356, 0, none⟩ = some (.int .i64 t351) := (blk_cell BK356.out 0).trans rfl
                          have hcz204_1 : wc.cell? ⟨gb356, 1, none⟩ = some (.int .i64 t352) := (blk_cell BK356.out 1).trans rfl
                          have hfz204_0 := blk_frozen BK356.out 0
                          have hfz204_1 := blk_frozen BK356.out 1
                          go_wp2
                          go_meet
                          case rel => exact ⟨_, (true), (by first | rfl | (simp; done) | (simp [*]; done) | (simp [bne]; done)), H', ⟨by have := HJ6.out; have := HJ14.out; have := HJ82.out; have := HJ91.out; have := HJ169.out; have := HJ181.out; have := HJ189.out; first | omega | exact Nat.le_refl _⟩, ⟨by (with_reducible repeat (first | apply Kd.R_alloc | apply Kd.R_drewN | apply Kd.R_drew)); exact HO_3.out⟩, ⟨by (with_reducible repeat (first | apply Kd.R_alloc | apply Kd.R_drewN | apply Kd.R_drew)); exact HO_24.out⟩, ⟨by (with_reducible repeat first | apply blk_drewN | apply blk_drew | apply blk_alloc); exact BK356.out⟩, ⟨by (with_reducible repeat first | apply blk_drewN | apply blk_drew | apply blk_alloc); exact BK357.out⟩, ⟨by (with_reducible repeat first | apply blk_drewN | apply blk_drew | apply blk_alloc); exact BK363.out⟩, ⟨by (with_reducible repeat first | apply blk_drewN | apply blk_drew | apply blk_alloc); exact BK364.out⟩, ⟨by (with_reducible repeat first | apply blk_drewN | apply blk_drew | apply blk_alloc); exact BK373.out⟩, ⟨by (with_reducible repeat first | apply blk_drewN | apply blk_drew | apply blk_alloc); exact BK377.out⟩, ⟨by repeat (first | (with_reducible first | exact HB.out | apply below_alloc | apply pw_below_drewN | apply below_drew1 | refine below_set ?_ GE356.out | refine below_set ?_ GE357.out | refine below_set ?_ GE363.out | refine below_set ?_ GE364.out | refine below_set ?_ GE373.out | refine below_set ?_ GE377.out) | exact HB.out)⟩⟩
                        rw [if_neg c198] at H
                        have c198b0 : decide (t352 < 1) = false := decide_eq_false c198
                        clear c198
                        (first | rw [c198b0] | (simp only [i64_w, i32_w]; rw [c198b0]) | skip)
                        by_cases c205 : t354 < 1
                        ·rw [if_pos c205] at H
                         have c205b0 : decide (t354 < 1) = true := decide_eq_true c205
                         clear c205
                         as_aux_lemma =>
                          have H' := Aside0.mk H
                          clear H; have hnb206 := NB356_357.out; have hnc206 := NB357_356.out; have hnb207 := NB356_363.out; have hnc207 := NB363_356.out; have hnb208 := NB356_364.out; have hnc208 := NB364_356.out; have hnb209 := NB356_373.out; have hnc209 := NB373_356.out; have hnb210 := NB356_377.out; have hnc210 := NB377_356.out
                          have hcz211_0 : wc.cell? ⟨gb356, 0, none⟩ = some (.int .i64 t351) := (blk_cell BK356.out 0).trans rfl
                          have hcz211_1 : wc.cell? ⟨gb356, 1, none⟩ = some (.int .i64 t352) := (blk_cell BK356.out 1).trans rfl
                          have hfz211_0 := blk_frozen BK356.out 0
                          have hfz211_1 := blk_frozen BK356.out 1
                          have hnb212 := NB357_363.out; have hnc212 := NB363_357.out; have hnb213 := NB357_364.out; have hnc213 := NB364_357.out; have hnb214 := NB357_373.out; have hnc214 := NB373_357.out; have hnb215 := NB357_377.out; have hnc215 := NB377_357.out
                          have hcz216_0 : wc.cell? ⟨gb357, 0, none⟩ = some (.int .i64 t353) := (blk_cell BK357.out 0).trans rfl
                          have hcz216_1 : wc.cell? ⟨gb357, 1, none⟩ = some (.int .i64 t354) := (blk_cell BK357.out 1).trans rfl
                          have hfz216_0 := blk_frozen BK357.out 0
                          have hfz216_1 := blk_frozen BK357.out 1
                          go_wp2
                          go_meet
                          case rel => exact ⟨_, (true), (by first | rfl | (simp; done) | (simp [*]; done) | (simp [bne]; done)), H', ⟨by have := HJ6.out; have := HJ14.out; have := HJ82.out; have := HJ91.out; have := HJ169.out; have := HJ181.out; have := HJ189.out; first | omega | exact Nat.le_refl _⟩, ⟨by (with_reducible repeat (first | apply Kd.R_alloc | apply Kd.R_drewN | apply Kd.R_drew)); exact HO_3.out⟩, ⟨by (with_reducible repeat (first | apply Kd.R_alloc | apply Kd.R_drewN | apply Kd.R_drew)); exact HO_24.out⟩, ⟨by (with_reducible repeat first | apply blk_drewN | apply blk_drew | apply blk_alloc); exact BK356.out⟩, ⟨by (with_reducible repeat first | apply blk_drewN | apply blk_drew | apply blk_alloc); exact BK357.out⟩, ⟨by (with_reducible repeat first | apply blk_drewN | apply blk_drew | apply blk_alloc); exact BK363.out⟩, ⟨by (with_reducible repeat first | apply blk_drewN | apply blk_drew | apply blk_alloc); exact BK364.out⟩, ⟨by (with_reducible repeat first | apply blk_drewN | apply blk_drew | apply blk_alloc); exact BK373.out⟩, ⟨by (with_reducible repeat first | apply blk_drewN | apply blk_drew | apply blk_alloc); exact BK377.out⟩, ⟨by repeat (first | (with_reducible first | exact HB.out | apply below_alloc | apply pw_below_drewN | apply below_drew1 | refine below_set ?_ GE356.out | refine below_set ?_ GE357.out | refine below_set ?_ GE363.out | refine below_set ?_ GE364.out | refine below_set ?_ GE373.out | refine below_set ?_ GE377.out) | exact HB.out)⟩⟩
                        rw [if_neg c205] at H
                        have c205b0 : decide (t354 < 1) = false := decide_eq_false c205
                        clear c205
                        by_cases c217 : t351 ≥ 0
                        rotate_left
                        ·rw [if_neg c217] at H
                         have c217b0 : decide (0 ≤ t351) = false := decide_eq_false c217
                         clear c217
                         by_cases c241 : (false != (t347 == 0)) = true
                         rotate_left
                         ·rw [if_neg c241] at H
                          have c241b0 : (false != (t347 == 0)) = false := by simpa using c241
                          (try (have c241b1 : decide (false = (t347 == 0)) = true := by simpa using c241))
                          (try (have c241b2 : (false == (t347 == 0)) = true := by simpa using c241))
                          clear c241
                          as_aux_lemma =>
                           have H' := Aside0.mk H
                           clear H; have hnb253 := NB356_357.out; have hnc253 := NB357_356.out; have hnb254 := NB356_363.out; have hnc254 := NB363_356.out; have hnb255 := NB356_364.out; have hnc255 := NB364_356.out; have hnb256 := NB356_373.out; have hnc256 := NB373_356.out; have hnb257 := NB356_377.out; have hnc257 := NB377_356.out
                           have hcz258_0 : wc.cell? ⟨gb356, 0, none⟩ = some (.int .i64 t351) := (blk_cell BK356.out 0).trans rfl
                           have hcz258_1 : wc.cell? ⟨gb356, 1, none⟩ = some (.int .i64 t352) := (blk_cell BK356.out 1).trans rfl
                           have hfz258_0 := blk_frozen BK356.out 0
                           have hfz258_1 := blk_frozen BK356.out 1
                           have hnb259 := NB357_363.out; have hnc259 := NB363_357.out; have hnb260 := NB357_364.out; have hnc260 := NB364_357.out; have hnb261 := NB357_373.out; have hnc261 := NB373_357.out; have hnb262 := NB357_377.out; have hnc262 := NB377_357.out
                           have hcz263_0 : wc.cell? ⟨gb357, 0, none⟩ = some (.int .i64 t353) := (blk_cell BK357.out 0).trans rfl
                           have hcz263_1 : wc.cell? ⟨gb357, 1, none⟩ = some (.int .i64 t354) := (blk_cell BK357.out 1).trans rfl
                           have hfz263_0 := blk_frozen BK357.out 0
                           have hfz263_1 := blk_frozen BK357.out 1
                           go_wp2
                           go_meet
                           case rel => exact ⟨_, (((wrap64 ((wrap64 (t351 * t354)) + (wrap64 (t353 * t352)))) != (wrap64 ((wrap64 (t365 * t352)) * t354)))), (by first | rfl | (simp; done) | (simp [*]; done) | (simp [bne]; done)), H', ⟨by have := HJ6.out; have := HJ14.out; have := HJ82.out; have := HJ91.out; have := HJ169.out; have := HJ181.out; have := HJ189.out; first | omega | exact Nat.le_refl _⟩, ⟨by (with_reducible repeat (first | apply Kd.R_alloc | apply Kd.R_drewN | apply Kd.R_drew)); exact HO_3.out⟩, ⟨by (with_reducible repeat (first | apply Kd.R_alloc | apply Kd.R_drewN | apply Kd.R_drew)); exact HO_24.out⟩, ⟨by (with_reducible repeat first | apply blk_drewN | apply blk_drew | apply blk_alloc); exact BK356.out⟩, ⟨by (with_reducible repeat first | apply blk_drewN | apply blk_drew | apply blk_alloc); exact BK357.out⟩, ⟨by (with_reducible repeat first | apply blk_drewN | apply blk_drew | apply blk_alloc); exact BK363.out⟩, ⟨by (with_reducible repeat first | apply blk_drewN | apply blk_drew | apply blk_alloc); exact BK364.out⟩, ⟨by (with_reducible repeat first | apply blk_drewN | apply blk_drew | apply blk_alloc); exact BK373.out⟩, ⟨by (with_reducible repeat first | apply blk_drewN | apply blk_drew | apply blk_alloc); exact BK377.out⟩, ⟨by repeat (first | (with_reducible first | exact HB.out | apply below_alloc | apply pw_below_drewN | apply below_drew1 | refine below_set ?_ GE356.out | refine below_set ?_ GE357.out | refine below_set ?_ GE363.out | refine below_set ?_ GE364.out | refine below_set ?_ GE373.out | refine below_set ?_ GE377.out) | exact HB.out)⟩⟩
                         rw [if_pos c241] at H
                         have c241b0 : (false != (t347 == 0)) = true := c241
                         (try (have c241b1 : decide (false = (t347 == 0)) = false := by simpa using c241))
                         (try (have c241b2 : (false == (t347 == 0)) = false := by simpa using c241))
                         (try (have c241b3 : ¬ (false = (t347 == 0)) := by simpa using c241))
                         clear c241
                         as_aux_lemma =>
                          have H' := Aside0.mk H
                          clear H; have hnb242 := NB356_357.out; have hnc242 := NB357_356.out; have hnb243 := NB356_363.out; have hnc243 := NB363_356.out; have hnb244 := NB356_364.out; have hnc244 := NB364_356.out; have hnb245 := NB356_373.out; have hnc245 := NB373_356.out; have hnb246 := NB356_377.out; have hnc246 := NB377_356.out
                          have hcz247_0 : wc.cell? ⟨gb356, 0, none⟩ = some (.int .i64 t351) := (blk_cell BK356.out 0).trans rfl
                          have hcz247_1 : wc.cell? ⟨gb356, 1, none⟩ = some (.int .i64 t352) := (blk_cell BK356.out 1).trans rfl
                          have hfz247_0 := blk_frozen BK356.out 0
                          have hfz247_1 := blk_frozen BK356.out 1
                          have hnb248 := NB357_363.out; have hnc248 := NB363_357.out; have hnb249 := NB357_364.out; have hnc249 := NB364_357.out; have hnb250 := NB357_373.out; have hnc250 := NB373_357.out; have hnb251 := NB357_377.out; have hnc251 := NB377_357.out
                          have hcz252_0 : wc.cell? ⟨gb357, 0, none⟩ = some (.int .i64 t353) := (blk_cell BK357.out 0).trans rfl
                          have hcz252_1 : wc.cell? ⟨gb357, 1, none⟩ = some (.int .i64 t354) := (blk_cell BK357.out 1).trans rfl
                          have hfz252_0 := blk_frozen BK357.out 0
                          have hfz252_1 := blk_frozen BK357.out 1
                          go_wp2
                          go_meet
                          case rel => exact ⟨_, (true), (by first | rfl | (simp; done) | (simp [*]; done) | (simp [bne]; done)), H', ⟨by have := HJ6.out; have := HJ14.out; have := HJ82.out; have := HJ91.out; have := HJ169.out; have := HJ181.out; have := HJ189.out; first | omega | exact Nat.le_refl _⟩, ⟨by (with_reducible repeat (first | apply Kd.R_alloc | apply Kd.R_drewN | apply Kd.R_drew)); exact HO_3.out⟩, ⟨by (with_reducible repeat (first | apply Kd.R_alloc | apply Kd.R_drewN | apply Kd.R_drew)); exact HO_24.out⟩, ⟨by (with_reducible repeat first | apply blk_drewN | apply blk_drew | apply blk_alloc); exact BK356.out⟩, ⟨by (with_reducible repeat first | apply blk_drewN | apply blk_drew | apply blk_alloc); exact BK357.out⟩, ⟨by (with_reducible repeat first | apply blk_drewN | apply blk_drew | apply blk_alloc); exact BK363.out⟩, ⟨by (with_reducible repeat first | apply blk_drewN | apply blk_drew | apply blk_alloc); exact BK364.out⟩, ⟨by (with_reducible repeat first | apply blk_drewN | apply blk_drew | apply blk_alloc); exact BK373.out⟩, ⟨by (with_reducible repeat first | apply blk_drewN | apply blk_drew | apply blk_alloc); exact BK377.out⟩, ⟨by repeat (first | (with_reducible first | exact HB.out | apply below_alloc | apply pw_below_drewN | apply below_drew1 | refine below_set ?_ GE356.out | refine below_set ?_ GE357.out | refine below_set ?_ GE363.out | refine below_set ?_ GE364.out | refine below_set ?_ GE373.out | refine below_set ?_ GE377.out) | exact HB.out)⟩⟩
                        rw [if_pos c217] at H
                        have c217b0 : decide (0 ≤ t351) = true := decide_eq_true c217
                        clear c217
                        by_cases c218 : ((decide (t353 ≥ 0)) != (t347 == 0)) = true
                        rotate_left
                        ·rw [if_neg c218] at H
                         have c218b0 : ((decide (t353 ≥ 0)) != (t347 == 0)) = false := by simpa using c218
                         (try (have c218b1 : decide ((decide (t353 ≥ 0)) = (t347 == 0)) = true := by simpa using c218))
                         (try (have c218b2 : ((decide (t353 ≥ 0)) == (t347 == 0)) = true := by simpa using c218))
                         clear c218
                         as_aux_lemma =>
                          have H' := Aside0.mk H
                          clear H; have hnb230 := NB356_357.out; have hnc230 := NB357_356.out; have hnb231 := NB356_363.out; have hnc231 := NB363_356.out; have hnb232 := NB356_364.out; have hnc232 := NB364_356.out; have hnb233 := NB356_373.out; have hnc233 := NB373_356.out; have hnb234 := NB356_377.out; have hnc234 := NB377_356.out
                          have hcz235_0 : wc.cell? ⟨gb356, 0, none⟩ = some (.int .i64 t351) := (blk_cell BK356.out 0).trans rfl
                          have hcz235_1 : wc.cell? ⟨gb356, 1, none⟩ = some (.int .i64 t352) := (blk_cell BK356.out 1).trans rfl
                          have hfz235_0 := blk_frozen BK356.out 0
                          have hfz235_1 := blk_frozen BK356.out 1
                          have hnb236 := NB357_363.out; have hnc236 := NB363_357.out; have hnb237 := NB357_364.out; have hnc237 := NB364_357.out; have hnb238 := NB357_373.out; have hnc238 := NB373_357.out; have hnb239 := NB357_377.out; have hnc239 := NB377_357.out
                          have hcz240_0 : wc.cell? ⟨gb357, 0, none⟩ = some (.int .i64 t353) := (blk_cell BK357.out 0).trans rfl
                          have hcz240_1 : wc.cell? ⟨gb357, 1, none⟩ = some (.int .i64 t354) := (blk_cell BK357.out 1).trans rfl
                          have hfz240_0 := blk_frozen BK357.out 0
                          have hfz240_1 := blk_frozen BK357.out 1
                          go_wp2
                          go_meet
                          case rel => exact ⟨_, (((wrap64 ((wrap64 (t351 * t354)) + (wrap64 (t353 * t352)))) != (wrap64 ((wrap64 (t365 * t352)) * t354)))), (by first | rfl | (simp; done) | (simp [*]; done) | (simp [bne]; done)), H', ⟨by have := HJ6.out; have := HJ14.out; have := HJ82.out; have := HJ91.out; have := HJ169.out; have := HJ181.out; have := HJ189.out; first | omega | exact Nat.le_refl _⟩, ⟨by (with_reducible repeat (first | apply Kd.R_alloc | apply Kd.R_drewN | apply Kd.R_drew)); exact HO_3.out⟩, ⟨by (with_reducible repeat (first | apply Kd.R_alloc | apply Kd.R_drewN | apply Kd.R_drew)); exact HO_24.out⟩, ⟨by (with_reducible repeat first | apply blk_drewN | apply blk_drew | apply blk_alloc); exact BK356.out⟩, ⟨by (with_reducible repeat first | apply blk_drewN | apply blk_drew | apply blk_alloc); exact BK357.out⟩, ⟨by (with_reducible repeat first | apply blk_drewN | apply blk_drew | apply blk_alloc); exact BK363.out⟩, ⟨by (with_reducible repeat first | apply blk_drewN | apply blk_drew | apply blk_alloc); exact BK364.out⟩, ⟨by (with_reducible repeat first | apply blk_drewN | apply blk_drew | apply blk_alloc); exact BK373.out⟩, ⟨by (with_reducible repeat first | apply blk_drewN | apply blk_drew | apply blk_alloc); exact BK377.out⟩, ⟨by repeat (first | (with_reducible first | exact HB.out | apply below_alloc | apply pw_below_drewN | apply below_drew1 | refine below_set ?_ GE356.out | refine below_set ?_ GE357.out | refine below_set ?_ GE363.out | refine below_set ?_ GE364.out | refine below_set ?_ GE373.out | refine below_set ?_ GE377.out) | exact HB.out)⟩⟩
                        rw [if_pos c218] at H
                        have c218b0 : ((decide (t353 ≥ 0)) != (t347 == 0)) = true := c218
                        (try (have c218b1 : decide ((decide (t353 ≥ 0)) = (t347 == 0)) = false := by simpa using c218))
                        (try (have c218b2 : ((decide (t353 ≥ 0)) == (t347 == 0)) = false := by simpa using c218))
                        (try (have c218b3 : ¬ ((decide (t353 ≥ 0)) = (t347 == 0)) := by simpa using c218))
                        clear c218
                        as_aux_lemma =>
                         have H' := Aside0.mk H
                         clear H; have hnb219 := NB356_357.out; have hnc219 := NB357_356.out; have hnb220 := NB356_363.out; have hnc220 := NB363_356.out; have hnb221 := NB356_364.out; have hnc221 := NB364_356.out; have hnb222 := NB356_373.out; have hnc222 := NB373_356.out; have hnb223 := NB356_377.out; have hnc223 := NB377_356.out
                         have hcz224_0 : wc.cell? ⟨gb356, 0, none⟩ = some (.int .i64 t351) := (blk_cell BK356.out 0).trans rfl
                         have hcz224_1 : wc.cell? ⟨gb356, 1, none⟩ = some (.int .i64 t352) := (blk_cell BK356.out 1).trans rfl
                         have hfz224_0 := blk_frozen BK356.out 0
                         have hfz224_1 := blk_frozen BK356.out 1
                         have hnb225 := NB357_363.out; have hnc225 := NB363_357.out; have hnb226 := NB357_364.out; have hnc226 := NB364_357.out; have hnb227 := NB357_373.out; have hnc227 := NB373_357.out; have hnb228 := NB357_377.out; have hnc228 := NB377_357.out
                         have hcz229_0 : wc.cell? ⟨gb357, 0, none⟩ = some (.int .i64 t353) := (blk_cell BK357.out 0).trans rfl
                         have hcz229_1 : wc.cell? ⟨gb357, 1, none⟩ = some (.int .i64 t354) := (blk_cell BK357.out 1).trans rfl
                         have hfz229_0 := blk_frozen BK357.out 0
                         have hfz229_1 := blk_frozen BK357.out 1
                         go_wp2
                         go_meet
                         case rel => exact ⟨_, (true), (by first | rfl | (simp; done) | (simp [*]; done) | (simp [bne]; done)), H', ⟨by have := HJ6.out; have := HJ14.out; have := HJ82.out; have := HJ91.out; have := HJ169.out; have := HJ181.out; have := HJ189.out; first | omega | exact Nat.le_refl _⟩, ⟨by (with_reducible repeat (first | apply Kd.R_alloc | apply Kd.R_drewN | apply Kd.R_drew)); exact HO_3.out⟩, ⟨by (with_reducible repeat (first | apply Kd.R_alloc | apply Kd.R_drewN | apply Kd.R_drew)); exact HO_24.out⟩, ⟨by (with_reducible repeat first | apply blk_drewN | apply blk_drew | apply blk_alloc); exact BK356.out⟩, ⟨by (with_reducible repeat first | apply blk_drewN | apply blk_drew | apply blk_alloc); exact BK357.out⟩, ⟨by (with_reducible repeat first | apply blk_drewN | apply blk_drew | apply blk_alloc); exact BK363.out⟩, ⟨by (with_reducible repeat first | apply blk_drewN | apply blk_drew | apply blk_alloc); exact BK364.out⟩, ⟨by (with_reducible repeat first | apply blk_drewN | apply blk_drew | apply blk_alloc); exact BK373.out⟩, ⟨by (with_reducible repeat first | apply blk_drewN | apply blk_drew | apply blk_alloc); exact BK377.out⟩, ⟨by repeat (first | (with_reducible first | exact HB.out | apply below_alloc | apply pw_below_drewN | apply below_drew1 | refine below_set ?_ GE356.out | refine below_set ?_ GE357.out | refine below_set ?_ GE363.out | refine below_set ?_ GE364.out | refine below_set ?_ GE373.out | refine below_set ?_ GE377.out) | exact HB.out)⟩⟩
                       case rest =>
                        clear HC196
                        obtain ⟨kq, x280_195, rfl, HA, HJ195, HO_3, HO_24, BK356, BK357, BK363, BK364, BK373, BK377, HB⟩ := hcut
                        cases kq with
                        | zero => exact absurd HA.out (by simp [laws_FnCentres.j7])
                        | succ kj195 =>
                         have H := HA.out
                         clear HA
                         simp only [laws_FnCentres.j7] at H
                         by_cases c264 : x280_195 = true
                         ·subst c264
                          have H1 : (some false) = some r := by rw [if_pos rfl] at H; exact H
                          clear H
                          have H := H1
                          clear H1
                          as_aux_lemma =>
                           obtain rfl := Option.some.inj H
                           go_wp2
                           go_ret
                           exact ⟨by first | rfl | (simp [errW_none, errW_some] <;> rfl) | (simp [*, errW_none, errW_some] <;> rfl), by repeat (first | (with_reducible first | exact HB.out | apply below_alloc | apply pw_below_drewN | apply below_drew1 | refine below_set ?_ GE356.out | refine below_set ?_ GE357.out | refine below_set ?_ GE363.out | refine below_set ?_ GE364.out | refine below_set ?_ GE373.out | refine below_set ?_ GE377.out) | exact HB.out)⟩
                         replace c264 := Bool.eq_false_iff.mpr c264
                         subst c264
                         have H1 : (if t372 = true then ((impl_TipSide.f kj195 t342 t395 t396).bind fun bt401 => (if bt401.2 = true then (if bt401.1 = 0 then (if (wrap64 (t396 - t395)) > 1 then (laws_FnCentres.j8 kj195 t342 t343 t344 t347 t348 t378 true t370 t371) else (laws_FnCentres.j8 kj195 t342 t343 t344 t347 t348 t378 ((t371 == 1) != (t395 == t396)) t370 t371)) else (laws_FnCentres.j8 kj195 t342 t343 t344 t347 t348 t378 true t370 t371)) else (laws_FnCentres.j8 kj195 t342 t343 t344 t347 t348 t378 true t370 t371))) else (if t348 = true then ((impl_TipSide.f kj195 t378 (wrap64 (60 - t344)) (wrap64 (60 - t343))).bind fun bt409 => (if bt409.2 = true then (some (bt409.1 == (wrap64 (-t347)))) else (some false))) else (some true))) = some r := by rw [if_neg (show ¬ (false = true) by decide)] at H; exact H
                         clear H
                         have H := H1
                         clear H1
                         by_cases c265 : t372 = true
                         rotate_left
                         ·replace c265 := Bool.eq_false_iff.mpr c265
                          subst c265
                          have H1 : (if t348 = true then ((impl_TipSide.f kj195 t378 (wrap64 (60 - t344)) (wrap64 (60 - t343))).bind fun bt409 => (if bt409.2 = true then (some (bt409.1 == (wrap64 (-t347)))) else (some false))) else (some true)) = some r := by rw [if_neg (show ¬ (false = true) by decide)] at H; exact H
                          clear H
                          have H := H1
                          clear H1
                          by_cases c323 : t348 = true
                          rotate_left
                          ·replace c323 := Bool.eq_false_iff.mpr c323
                           subst c323
                           have H1 : (some true) = some r := by rw [if_neg (show ¬ (false = true) by decide)] at H; exact H
                           clear H
                           have H := H1
                           clear H1
                           as_aux_lemma =>
                            obtain rfl := Option.some.inj H
                            go_wp2
                            go_ret
                            exact ⟨by first | rfl | (simp [errW_none, errW_some] <;> rfl) | (simp [*, errW_none, errW_some] <;> rfl), by repeat (first | (with_reducible first | exact HB.out | apply below_alloc | apply pw_below_drewN | apply below_drew1 | refine below_set ?_ GE356.out | refine below_set ?_ GE357.out | refine below_set ?_ GE363.out | refine below_set ?_ GE364.out | refine below_set ?_ GE373.out | refine below_set ?_ GE377.out) | exact HB.out)⟩

                          subst c323
                          have H1 : ((impl_TipSide.f kj195 t378 (wrap64 (60 - t344)) (wrap64 (60 - t343))).bind fun bt409 => (if bt409.2 = true then (some (bt409.1 == (wrap64 (-t347)))) else (some false))) = some r := by rw [if_pos rfl] at H; exact H
                          clear H
                          have H := H1
                          clear H1
                          replace H := Option.bind_eq_some_iff.mp H
                          obtain ⟨⟨t409, t410⟩, A3240, H⟩ := H
                          replace H : (if t410 = true then (some (t409 == (wrap64 (-t347)))) else (some false)) = some r := H
                          have A324 := Aside0.mk A3240
                          clear A3240
                          by_cases c325 : t410 = true
                          ·subst c325
                           have H1 : (some (t409 == (wrap64 (-t347)))) = some r := by rw [if_pos rfl] at H; exact H
                           clear H
                           have H := H1
                           clear H1
                           as_aux_lemma =>
                            obtain rfl := Option.some.inj H
                            obtain ⟨Ao326, co326, eo326⟩ := Kd.R_slice HO_24.out
                            subst eo326
                            go_wp2_with (first | ((with_reducible refine gate_callee (f := 14) rfl ?_); refine goesL_ (some 334) rfl rfl Try.func14 (by kernel_rfl) rfl #[.slice Ao326 t378.length co326, .int .i64 (wrap64 (60 - t344)), .int .i64 (wrap64 (60 - t343))] rfl (by (try simp only [List.map_toArray, List.map_cons, List.map_nil]); first | done | rfl | (simp only [List.length_drop, List.length_take]; rfl)) ?_; (with_reducible refine (impl_TipSide.calls kj195 _ _ t378 (wrap64 (60 - t344)) (wrap64 (60 - t343)) t409 true _ ?side1 ?side2 A324.out).mono ?_); (case side1 => repeat (first | exact (Kd.R_reads' HO_24.out).2.2 | (with_reducible refine Kd.C_alloc ?_ _) | (with_reducible refine Kd.C_drewN ?_ _) | (with_reducible refine Kd.C_drew ?_))); (case side2 => exact (Kd.R_reads' HO_24.out).2.1); rintro e w327 ⟨rfl, hb⟩; refine ⟨_, rfl, ?_⟩; have n0_ := Aside0.mk (Kd.R_below (by (with_reducible repeat (first | apply Kd.R_alloc | apply Kd.R_drewN | apply Kd.R_drew)); exact HO_3.out) hb); have n1_ := Aside0.mk (Kd.R_below (by (with_reducible repeat (first | apply Kd.R_alloc | apply Kd.R_drewN | apply Kd.R_drew)); exact HO_24.out) hb); have n2_ := Aside0.mk (blk_below (g := gb356) (o := .cells #[.int .i64 t351, .int .i64 t352] 36 (0, 0)) (by (with_reducible repeat first | apply blk_drewN | apply blk_drew | apply blk_alloc); exact BK356.out) hb); have n3_ := Aside0.mk (blk_below (g := gb357) (o := .cells #[.int .i64 t353, .int .i64 t354] 36 (0, 0)) (by (with_reducible repeat first | apply blk_drewN | apply blk_drew | apply blk_alloc); exact BK357.out) hb); have n4_ := Aside0.mk (blk_below (g := gb363) (o := .cells #[.int .i64 t358, .int .i64 t359] 36 (0, 0)) (by (with_reducible repeat first | apply blk_drewN | apply blk_drew | apply blk_alloc); exact BK363.out) hb); have n5_ := Aside0.mk (blk_below (g := gb364) (o := .cells #[.int .i64 t360, .int .i64 t361] 36 (0, 0)) (by (with_reducible repeat first | apply blk_drewN | apply blk_drew | apply blk_alloc); exact BK364.out) hb); have n6_ := Aside0.mk (blk_below (g := gb373) (o := .cells #[.int .i64 t370, .int .i64 t371] 36 (0, 0)) (by (with_reducible repeat first | apply blk_drewN | apply blk_drew | apply blk_alloc); exact BK373.out) hb); have n7_ := Aside0.mk (blk_below (g := gb377) (o := .cells #[.int .i64 t374, .int .i64 t375] 36 (0, 0)) (by (with_reducible repeat first | apply blk_drewN | apply blk_drew | apply blk_alloc); exact BK377.out) hb); have n8_ := Aside0.mk (below_step (by repeat (first | (with_reducible first | exact HB.out | apply below_alloc | apply pw_below_drewN | apply below_drew1 | refine below_set ?_ GE356.out | refine below_set ?_ GE357.out | refine below_set ?_ GE363.out | refine below_set ?_ GE364.out | refine below_set ?_ GE373.out | refine below_set ?_ GE377.out) | exact HB.out)) hb); clear HO_3; clear HO_24; clear BK356; clear BK357; clear BK363; clear BK364; clear BK373; clear BK377; clear HB; have HO_3 := n0_; have HO_24 := n1_; have BK356 := n2_; have BK357 := n3_; have BK363 := n4_; have BK364 := n5_; have BK373 := n6_; have BK377 := n7_; have HB := n8_; clear n0_ n1_ n2_ n3_ n4_ n5_ n6_ n7_ n8_; (try clear hb); (try clear hb2); (try clear hk); (try clear hi)))
                            go_ret
                            exact ⟨by first | rfl | (simp [errW_none, errW_some] <;> rfl) | (simp [*, errW_none, errW_some] <;> rfl), by repeat (first | (with_reducible first | exact HB.out | apply below_alloc | apply pw_below_drewN | apply below_drew1 | refine below_set ?_ GE356.out | refine below_set ?_ GE357.out | refine below_set ?_ GE363.out | refine below_set ?_ GE364.out | refine below_set ?_ GE373.out | refine below_set ?_ GE377.out) | exact HB.out)⟩
                          replace c325 := Bool.eq_false_iff.mpr c325
                          subst c325
                          have H1 : (some false) = some r := by rw [if_neg (show ¬ (false = true) by decide)] at H; exact H
                          clear H
                          have H := H1
                          clear H1
                          as_aux_lemma =>
                           obtain rfl := Option.some.inj H
                           obtain ⟨Ao328, co328, eo328⟩ := Kd.R_slice HO_24.out
                           subst eo328
                           go_wp2_with (first | ((with_reducible refine gate_callee (f := 14) rfl ?_); refine goesL_ (some 334) rfl rfl Try.func14 (by kernel_rfl) rfl #[.slice Ao328 t378.length co328, .int .i64 (wrap64 (60 - t344)), .int .i64 (wrap64 (60 - t343))] rfl (by (try simp only [List.map_toArray, List.map_cons, List.map_nil]); first | done | rfl | (simp only [List.length_drop, List.length_take]; rfl)) ?_; (with_reducible refine (impl_TipSide.calls kj195 _ _ t378 (wrap64 (60 - t344)) (wrap64 (60 - t343)) t409 false _ ?side1 ?side2 A324.out).mono ?_); (case side1 => repeat (first | exact (Kd.R_reads' HO_24.out).2.2 | (with_reducible refine Kd.C_alloc ?_ _) | (with_reducible refine Kd.C_drewN ?_ _) | (with_reducible refine Kd.C_drew ?_))); (case side2 => exact (Kd.R_reads' HO_24.out).2.1); rintro e w329 ⟨rfl, hb⟩; refine ⟨_, rfl, ?_⟩; have n0_ := Aside0.mk (Kd.R_below (by (with_reducible repeat (first | apply Kd.R_alloc | apply Kd.R_drewN | apply Kd.R_drew)); exact HO_3.out) hb); have n1_ := Aside0.mk (Kd.R_below (by (with_reducible repeat (first | apply Kd.R_alloc | apply Kd.R_drewN | apply Kd.R_drew)); exact HO_24.out) hb); have n2_ := Aside0.mk (blk_below (g := gb356) (o := .cells #[.int .i64 t351, .int .i64 t352] 36 (0, 0)) (by (with_reducible repeat first | apply blk_drewN | apply blk_drew | apply blk_alloc); exact BK356.out) hb); have n3_ := Aside0.mk (blk_below (g := gb357) (o := .cells #[.int .i64 t353, .int .i64 t354] 36 (0, 0)) (by (with_reducible repeat first | apply blk_drewN | apply blk_drew | apply blk_alloc); exact BK357.out) hb); have n4_ := Aside0.mk (blk_below (g := gb363) (o := .cells #[.int .i64 t358, .int .i64 t359] 36 (0, 0)) (by (with_reducible repeat first | apply blk_drewN | apply blk_drew | apply blk_alloc); exact BK363.out) hb); have n5_ := Aside0.mk (blk_below (g := gb364) (o := .cells #[.int .i64 t360, .int .i64 t361] 36 (0, 0)) (by (with_reducible repeat first | apply blk_drewN | apply blk_drew | apply blk_alloc); exact BK364.out) hb); have n6_ := Aside0.mk (blk_below (g := gb373) (o := .cells #[.int .i64 t370, .int .i64 t371] 36 (0, 0)) (by (with_reducible repeat first | apply blk_drewN | apply blk_drew | apply blk_alloc); exact BK373.out) hb); have n7_ := Aside0.mk (blk_below (g := gb377) (o := .cells #[.int .i64 t374, .int .i64 t375] 36 (0, 0)) (by (with_reducible repeat first | apply blk_drewN | apply blk_drew | apply blk_alloc); exact BK377.out) hb); have n8_ := Aside0.mk (below_step (by repeat (first | (with_reducible first | exact HB.out | apply below_alloc | apply pw_below_drewN | apply below_drew1 | refine below_set ?_ GE356.out | refine below_set ?_ GE357.out | refine below_set ?_ GE363.out | refine below_set ?_ GE364.out | refine below_set ?_ GE373.out | refine below_set ?_ GE377.out) | exact HB.out)) hb); clear HO_3; clear HO_24; clear BK356; clear BK357; clear BK363; clear BK364; clear BK373; clear BK377; clear HB; have HO_3 := n0_; have HO_24 := n1_; have BK356 := n2_; have BK357 := n3_; have BK363 := n4_; have BK364 := n5_; have BK373 := n6_; have BK377 := n7_; have HB := n8_; clear n0_ n1_ n2_ n3_ n4_ n5_ n6_ n7_ n8_; (try clear hb); (try clear hb2); (try clear hk); (try clear hi)))
                           go_ret
                           exact ⟨by first | rfl | (simp [errW_none, errW_some] <;> rfl) | (simp [*, errW_none, errW_some] <;> rfl), by repeat (first | (with_reducible first | exact HB.out | apply below_alloc | apply pw_below_drewN | apply below_drew1 | refine below_set ?_ GE356.out | refine below_set ?_ GE357.out | refine below_set ?_ GE363.out | refine below_set ?_ GE364.out | refine below_set ?_ GE373.out | refine below_set ?_ GE377.out) | exact HB.out)⟩
                         subst c265
                         have H1 : ((impl_TipSide.f kj195 t342 t395 t396).bind fun bt401 => (if bt401.2 = true then (if bt401.1 = 0 then (if (wrap64 (t396 - t395)) > 1 then (laws_FnCentres.j8 kj195 t342 t343 t344 t347 t348 t378 true t370 t371) else (laws_FnCentres.j8 kj195 t342 t343 t344 t347 t348 t378 ((t371 == 1) != (t395 == t396)) t370 t371)) else (laws_FnCentres.j8 kj195 t342 t343 t344 t347 t348 t378 true t370 t371)) else (laws_FnCentres.j8 kj195 t342 t343 t344 t347 t348 t378 true t370 t371))) = some r := by rw [if_pos rfl] at H; exact H
                         clear H
                         have H := H1
                         clear H1
                         replace H := Option.bind_eq_some_iff.mp H
                         obtain ⟨⟨t401, t402⟩, A2660, H⟩ := H
                         replace H : (if t402 = true then (if t401 = 0 then (if (wrap64 (t396 - t395)) > 1 then (laws_FnCentres.j8 kj195 t342 t343 t344 t347 t348 t378 true t370 t371) else (laws_FnCentres.j8 kj195 t342 t343 t344 t347 t348 t378 ((t371 == 1) != (t395 == t396)) t370 t371)) else (laws_FnCentres.j8 kj195 t342 t343 t344 t347 t348 t378 true t370 t371)) else (laws_FnCentres.j8 kj195 t342 t343 t344 t347 t348 t378 true t370 t371)) = some r := H
                         have A266 := Aside0.mk A2660
                         clear A2660
                         have HC267 := Aside0.mk H
                         clear H
                         as_aux_lemma =>
                          go_upto_region 37 with (first | ((with_reducible refine gate_callee (f := 14) rfl ?_); refine goesL_ (some 286) rfl rfl Try.func14 (by kernel_rfl) rfl #[.slice Ao9 t342.length co9, .int .i64 t395, .int .i64 t396] rfl (by (try simp only [List.map_toArray, List.map_cons, List.map_nil]); first | done | rfl | (simp only [List.length_drop, List.length_take]; rfl)) ?_; (with_reducible refine (impl_TipSide.calls kj195 _ _ t342 t395 t396 t401 t402 _ ?side1 ?side2 A266.out).mono ?_); (case side1 => repeat (first | exact (Kd.R_reads' HO_3.out).2.2 | (with_reducible refine Kd.C_alloc ?_ _) | (with_reducible refine Kd.C_drewN ?_ _) | (with_reducible refine Kd.C_drew ?_))); (case side2 => exact (Kd.R_reads' HO_3.out).2.1); rintro e w268 ⟨rfl, hb⟩; refine ⟨_, rfl, ?_⟩; have n0_ := Aside0.mk (Kd.R_below (by (with_reducible repeat (first | apply Kd.R_alloc | apply Kd.R_drewN | apply Kd.R_drew)); exact HO_3.out) hb); have n1_ := Aside0.mk (Kd.R_below (by (with_reducible repeat (first | apply Kd.R_alloc | apply Kd.R_drewN | apply Kd.R_drew)); exact HO_24.out) hb); have n2_ := Aside0.mk (blk_below (g := gb356) (o := .cells #[.int .i64 t351, .int .i64 t352] 36 (0, 0)) (by (with_reducible repeat first | apply blk_drewN | apply blk_drew | apply blk_alloc); exact BK356.out) hb); have n3_ := Aside0.mk (blk_below (g := gb357) (o := .cells #[.int .i64 t353, .int .i64 t354] 36 (0, 0)) (by (with_reducible repeat first | apply blk_drewN | apply blk_drew | apply blk_alloc); exact BK357.out) hb); have n4_ := Aside0.mk (blk_below (g := gb363) (o := .cells #[.int .i64 t358, .int .i64 t359] 36 (0, 0)) (by (with_reducible repeat first | apply blk_drewN | apply blk_drew | apply blk_alloc); exact BK363.out) hb); have n5_ := Aside0.mk (blk_below (g := gb364) (o := .cells #[.int .i64 t360, .int .i64 t361] 36 (0, 0)) (by (with_reducible repeat first | apply blk_drewN | apply blk_drew | apply blk_alloc); exact BK364.out) hb); have n6_ := Aside0.mk (blk_below (g := gb373) (o := .cells #[.int .i64 t370, .int .i64 t371] 36 (0, 0)) (by (with_reducible repeat first | apply blk_drewN | apply blk_drew | apply blk_alloc); exact BK373.out) hb); have n7_ := Aside0.mk (blk_below (g := gb377) (o := .cells #[.int .i64 t374, .int .i64 t375] 36 (0, 0)) (by (with_reducible repeat first | apply blk_drewN | apply blk_drew | apply blk_alloc); exact BK377.out) hb); have n8_ := Aside0.mk (below_step (by repeat (first | (with_reducible first | exact HB.out | apply below_alloc | apply pw_below_drewN | apply below_drew1 | refine below_set ?_ GE356.out | refine below_set ?_ GE357.out | refine below_set ?_ GE363.out | refine below_set ?_ GE364.out | refine below_set ?_ GE373.out | refine below_set ?_ GE377.out) | exact HB.out)) hb); clear HO_3; clear HO_24; clear BK356; clear BK357; clear BK363; clear BK364; clear BK373; clear BK377; clear HB; have HO_3 := n0_; have HO_24 := n1_; have BK356 := n2_; have BK357 := n3_; have BK363 := n4_; have BK364 := n5_; have BK373 := n6_; have BK377 := n7_; have HB := n8_; clear n0_ n1_ n2_ n3_ n4_ n5_ n6_ n7_ n8_; (try clear hb); (try clear hb2); (try clear hk); (try clear hi)))
                          (try simp only [Act.put, List.setIfInBounds_toArray, List.set_cons_zero, List.set_cons_succ])
                          go_cut [309] (fun v309 wc => ∃ (kq : Nat) (x309_266 : Bool), v309 = .bool x309_266 ∧ Aside0 (laws_FnCentres.j8 kq t342 t343 t344 t347 t348 t378 x309_266 t370 t371 = some r) ∧ Aside0 (kq ≤ kj195) ∧ Aside0 (Kd.R k33 33 wc w.heap.size (fun k_ => some k_ ≠ (v380 : Value).ownBlock) (.slice Ao9 t342.length co9) t342) ∧ Aside0 (Kd.R k33 33 wc w.heap.size (fun k_ => some k_ ≠ ((.slice Ao9 t342.length co9) : Value).ownBlock) v380 t378) ∧ Aside0 (wc.heap[gb356]? = some (.cells #[.int .i64 t351, .int .i64 t352] 36 (0, 0))) ∧ Aside0 (wc.heap[gb357]? = some (.cells #[.int .i64 t353, .int .i64 t354] 36 (0, 0))) ∧ Aside0 (wc.heap[gb363]? = some (.cells #[.int .i64 t358, .int .i64 t359] 36 (0, 0))) ∧ Aside0 (wc.heap[gb364]? = some (.cells #[.int .i64 t360, .int .i64 t361] 36 (0, 0))) ∧ Aside0 (wc.heap[gb373]? = some (.cells #[.int .i64 t370, .int .i64 t371] 36 (0, 0))) ∧ Aside0 (wc.heap[gb377]? = some (.cells #[.int .i64 t374, .int .i64 t375] 36 (0, 0))) ∧ Aside0 (Below w.heap.size w wc))
                          case first =>
                           have H := HC267.out
                           clear HC267
                           by_cases c269 : t402 = true
                           rotate_left
                           ·replace c269 := Bool.eq_false_iff.mpr c269
                            subst c269
                            have H1 : (laws_FnCentres.j8 kj195 t342 t343 t344 t347 t348 t378 true t370 t371) = some r := by rw [if_neg (show ¬ (false = true) by decide)] at H; exact H
                            clear H
                            have H := H1
                            clear H1
                            as_aux_lemma =>
                             have H' := Aside0.mk H
                             clear H
                             go_wp2
                             go_meet
                             case rel => exact ⟨_, (true), (by first | rfl | (simp; done) | (simp [*]; done) | (simp [bne]; done)), H', ⟨by have := HJ6.out; have := HJ14.out; have := HJ82.out; have := HJ91.out; have := HJ169.out; have := HJ181.out; have := HJ189.out; have := HJ195.out; first | omega | exact Nat.le_refl _⟩, ⟨by (with_reducible repeat (first | apply Kd.R_alloc | apply Kd.R_drewN | apply Kd.R_drew)); exact HO_3.out⟩, ⟨by (with_reducible repeat (first | apply Kd.R_alloc | apply Kd.R_drewN | apply Kd.R_drew)); exact HO_24.out⟩, ⟨by (with_reducible repeat first | apply blk_drewN | apply blk_drew | apply blk_alloc); exact BK356.out⟩, ⟨by (with_reducible repeat first | apply blk_drewN | apply blk_drew | apply blk_alloc); exact BK357.out⟩, ⟨by (with_reducible repeat first | apply blk_drewN | apply blk_drew | apply blk_alloc); exact BK363.out⟩, ⟨by (with_reducible repeat first | apply blk_drewN | apply blk_drew | apply blk_alloc); exact BK364.out⟩, ⟨by (with_reducible repeat first | apply blk_drewN | apply blk_drew | apply blk_alloc); exact BK373.out⟩, ⟨by (with_reducible repeat first | apply blk_drewN | apply blk_drew | apply blk_alloc); exact BK377.out⟩, ⟨by repeat (first | (with_reducible first | exact HB.out | apply below_alloc | apply pw_below_drewN | apply below_drew1 | refine below_set ?_ GE356.out | refine below_set ?_ GE357.out | refine below_set ?_ GE363.out | refine below_set ?_ GE364.out | refine below_set ?_ GE373.out | refine below_set ?_ GE377.out) | exact HB.out)⟩⟩
                           subst c269
                           have H1 : (if t401 = 0 then (if (wrap64 (t396 - t395)) > 1 then (laws_FnCentres.j8 kj195 t342 t343 t344 t347 t348 t378 true t370 t371) else (laws_FnCentres.j8 kj195 t342 t343 t344 t347 t348 t378 ((t371 == 1) != (t395 == t396)) t370 t371)) else (laws_FnCentres.j8 kj195 t342 t343 t344 t347 t348 t378 true t370 t371)) = some r := by rw [if_pos rfl] at H; exact H
                           clear H
                           have H := H1
                           clear H1
                           by_cases c270 : t401 = 0
                           rotate_left
                           ·rw [if_neg c270] at H
                            have c270b0 : (t401 == 0) = false := beq_eq_false_iff_ne.mpr c270
                            have c270b1 : (t401 != 0) = true := bne_iff_ne.mpr c270
                            (first | rw [c270b0] | (simp only [i64_w, i32_w]; rw [c270b0]) | skip)
                            as_aux_lemma =>
                             have H' := Aside0.mk H
                             clear H
                             go_wp2
                             go_meet
                             case rel => exact ⟨_, (true), (by first | rfl | (simp; done) | (simp [*]; done) | (simp [bne]; done)), H', ⟨by have := HJ6.out; have := HJ14.out; have := HJ82.out; have := HJ91.out; have := HJ169.out; have := HJ181.out; have := HJ189.out; have := HJ195.out; first | omega | exact Nat.le_refl _⟩, ⟨by (with_reducible repeat (first | apply Kd.R_alloc | apply Kd.R_drewN | apply Kd.R_drew)); exact HO_3.out⟩, ⟨by (with_reducible repeat (first | apply Kd.R_alloc | apply Kd.R_drewN | apply Kd.R_drew)); exact HO_24.out⟩, ⟨by (with_reducible repeat first | apply blk_drewN | apply blk_drew | apply blk_alloc); exact BK356.out⟩, ⟨by (with_reducible repeat first | apply blk_drewN | apply blk_drew | apply blk_alloc); exact BK357.out⟩, ⟨by (with_reducible repeat first | apply blk_drewN | apply blk_drew | apply blk_alloc); exact BK363.out⟩, ⟨by (with_reducible repeat first | apply blk_drewN | apply blk_drew | apply blk_alloc); exact BK364.out⟩, ⟨by (with_reducible repeat first | apply blk_drewN | apply blk_drew | apply blk_alloc); exact BK373.out⟩, ⟨by (with_reducible repeat first | apply blk_drewN | apply blk_drew | apply blk_alloc); exact BK377.out⟩, ⟨by repeat (first | (with_reducible first | exact HB.out | apply below_alloc | apply pw_below_drewN | apply below_drew1 | refine below_set ?_ GE356.out | refine below_set ?_ GE357.out | refine below_set ?_ GE363.out | refine below_set ?_ GE364.out | refine below_set ?_ GE373.out | refine below_set ?_ GE377.out) | exact HB.out)⟩⟩
                           rw [if_pos c270] at H
                           have c270b0 : (t401 == 0) = true := beq_iff_eq.mpr c270
                           have c270b1 : (t401 != 0) = false := bne_eq_false_iff_eq.mpr c270
                           clear c270
                           (first | rw [c270b0] | (simp only [i64_w, i32_w]; rw [c270b0]) | skip)
                           by_cases c271 : (wrap64 (t396 - t395)) > 1
                           ·rw [if_pos c271] at H
                            have c271b0 : decide (1 < (wrap64 (t396 - t395))) = true := decide_eq_true c271
                            clear c271
                            as_aux_lemma =>
                             have H' := Aside0.mk H
                             clear H
                             go_wp2
                             go_meet
                             case rel => exact ⟨_, (true), (by first | rfl | (simp; done) | (simp [*]; done) | (simp [bne]; done)), H', ⟨by have := HJ6.out; have := HJ14.out; have := HJ82.out; have := HJ91.out; have := HJ169.out; have := HJ181.out; have := HJ189.out; have := HJ195.out; first | omega | exact Nat.le_refl _⟩, ⟨by (with_reducible repeat (first | apply Kd.R_alloc | apply Kd.R_drewN | apply Kd.R_drew)); exact HO_3.out⟩, ⟨by (with_reducible repeat (first | apply Kd.R_alloc | apply Kd.R_drewN | apply Kd.R_drew)); exact HO_24.out⟩, ⟨by (with_reducible repeat first | apply blk_drewN | apply blk_drew | apply blk_alloc); exact BK356.out⟩, ⟨by (with_reducible repeat first | apply blk_drewN | apply blk_drew | apply blk_alloc); exact BK357.out⟩, ⟨by (with_reducible repeat first | apply blk_drewN | apply blk_drew | apply blk_alloc); exact BK363.out⟩, ⟨by (with_reducible repeat first | apply blk_drewN | apply blk_drew | apply blk_alloc); exact BK364.out⟩, ⟨by (with_reducible repeat first | apply blk_drewN | apply blk_drew | apply blk_alloc); exact BK373.out⟩, ⟨by (with_reducible repeat first | apply blk_drewN | apply blk_drew | apply blk_alloc); exact BK377.out⟩, ⟨by repeat (first | (with_reducible first | exact HB.out | apply below_alloc | apply pw_below_drewN | apply below_drew1 | refine below_set ?_ GE356.out | refine below_set ?_ GE357.out | refine below_set ?_ GE363.out | refine below_set ?_ GE364.out | refine below_set ?_ GE373.out | refine below_set ?_ GE377.out) | exact HB.out)⟩⟩
                           rw [if_neg c271] at H
                           have c271b0 : decide (1 < (wrap64 (t396 - t395))) = false := decide_eq_false c271
                           clear c271
                           as_aux_lemma =>
                            have H' := Aside0.mk H
                            clear H; have hnb272 := NB373_356.out; have hnc272 := NB356_373.out; have hnb273 := NB373_357.out; have hnc273 := NB357_373.out; have hnb274 := NB373_363.out; have hnc274 := NB363_373.out; have hnb275 := NB373_364.out; have hnc275 := NB364_373.out; have hnb276 := NB373_377.out; have hnc276 := NB377_373.out
                            have hcz277_0 : w268.cell? ⟨gb373, 0, none⟩ = some (.int .i64 t370) := (blk_cell BK373.out 0).trans rfl
                            have hcz277_1 : w268.cell? ⟨gb373, 1, none⟩ = some (.int .i64 t371) := (blk_cell BK373.out 1).trans rfl
                            have hfz277_0 := blk_frozen BK373.out 0
                            have hfz277_1 := blk_frozen BK373.out 1
                            go_wp2
                            go_meet
                            case rel => exact ⟨_, (((t371 == 1) != (t395 == t396))), (by first | rfl | (simp; done) | (simp [*]; done) | (simp [bne]; done)), H', ⟨by have := HJ6.out; have := HJ14.out; have := HJ82.out; have := HJ91.out; have := HJ169.out; have := HJ181.out; have := HJ189.out; have := HJ195.out; first | omega | exact Nat.le_refl _⟩, ⟨by (with_reducible repeat (first | apply Kd.R_alloc | apply Kd.R_drewN | apply Kd.R_drew)); exact HO_3.out⟩, ⟨by (with_reducible repeat (first | apply Kd.R_alloc | apply Kd.R_drewN | apply Kd.R_drew)); exact HO_24.out⟩, ⟨by (with_reducible repeat first | apply blk_drewN | apply blk_drew | apply blk_alloc); exact BK356.out⟩, ⟨by (with_reducible repeat first | apply blk_drewN | apply blk_drew | apply blk_alloc); exact BK357.out⟩, ⟨by (with_reducible repeat first | apply blk_drewN | apply blk_drew | apply blk_alloc); exact BK363.out⟩, ⟨by (with_reducible repeat first | apply blk_drewN | apply blk_drew | apply blk_alloc); exact BK364.out⟩, ⟨by (with_reducible repeat first | apply blk_drewN | apply blk_drew | apply blk_alloc); exact BK373.out⟩, ⟨by (with_reducible repeat first | apply blk_drewN | apply blk_drew | apply blk_alloc); exact BK377.out⟩, ⟨by repeat (first | (with_reducible first | exact HB.out | apply below_alloc | apply pw_below_drewN | apply below_drew1 | refine below_set ?_ GE356.out | refine below_set ?_ GE357.out | refine below_set ?_ GE363.out | refine below_set ?_ GE364.out | refine below_set ?_ GE373.out | refine below_set ?_ GE377.out) | exact HB.out)⟩⟩
                          case rest =>
                           clear HC267
                           obtain ⟨kq, x309_266, rfl, HA, HJ266, HO_3, HO_24, BK356, BK357, BK363, BK364, BK373, BK377, HB⟩ := hcut
                           cases kq with
                           | zero => exact absurd HA.out (by simp [laws_FnCentres.j8])
                           | succ kj266 =>
                            have H := HA.out
                            clear HA
                            simp only [laws_FnCentres.j8] at H
                            by_cases c278 : x309_266 = true
                            ·subst c278
                             have H1 : (some false) = some r := by rw [if_pos rfl] at H; exact H
                             clear H
                             have H := H1
                             clear H1
                             as_aux_lemma =>
                              obtain rfl := Option.some.inj H
                              go_wp2
                              go_ret
                              exact ⟨by first | rfl | (simp [errW_none, errW_some] <;> rfl) | (simp [*, errW_none, errW_some] <;> rfl), by repeat (first | (with_reducible first | exact HB.out | apply below_alloc | apply pw_below_drewN | apply below_drew1 | refine below_set ?_ GE356.out | refine below_set ?_ GE357.out | refine below_set ?_ GE363.out | refine below_set ?_ GE364.out | refine below_set ?_ GE373.out | refine below_set ?_ GE377.out) | exact HB.out)⟩
                            replace c278 := Bool.eq_false_iff.mpr c278
                            subst c278
                            have H1 : (if t371 = 1 then ((impl_MomentAbout.f kj266 t342 t370).bind fun bt403 => (if bt403.2 = true then (laws_FnCentres.j9 kj266 t343 t344 t347 t348 t378 (bt403.1 != 0)) else (laws_FnCentres.j9 kj266 t343 t344 t347 t348 t378 true))) else (if t348 = true then ((impl_TipSide.f kj266 t378 (wrap64 (60 - t344)) (wrap64 (60 - t343))).bind fun bt407 => (if bt407.2 = true then (some (bt407.1 == (wrap64 (-t347)))) else (some false))) else (some true))) = some r := by rw [if_neg (show ¬ (false = true) by decide)] at H; exact H
                            clear H
                            have H := H1
                            clear H1
                            by_cases c279 : t371 = 1
                            rotate_left
                            ·rw [if_neg c279] at H
                             have c279b0 : (t371 == 1) = false := beq_eq_false_iff_ne.mpr c279
                             have c279b1 : (t371 != 1) = true := bne_iff_ne.mpr c279
                             by_cases c298 : t348 = true
                             rotate_left
                             ·replace c298 := Bool.eq_false_iff.mpr c298
                              subst c298
                              have H1 : (some true) = some r := by rw [if_neg (show ¬ (false = true) by decide)] at H; exact H
                              clear H
                              have H := H1
                              clear H1
                              as_aux_lemma =>
                               obtain rfl := Option.some.inj H
                               have hnb317 := NB373_356.out; have hnc317 := NB356_373.out; have hnb318 := NB373_357.out; have hnc318 := NB357_373.out; have hnb319 := NB373_363.out; have hnc319 := NB363_373.out; have hnb320 := NB373_364.out; have hnc320 := NB364_373.out; have hnb321 := NB373_377.out; have hnc321 := NB377_373.out
                               have hcz322_0 : wc.cell? ⟨gb373, 0, none⟩ = some (.int .i64 t370) := (blk_cell BK373.out 0).trans rfl
                               have hcz322_1 : wc.cell? ⟨gb373, 1, none⟩ = some (.int .i64 t371) := (blk_cell BK373.out 1).trans rfl
                               have hfz322_0 := blk_frozen BK373.out 0
                               have hfz322_1 := blk_frozen BK373.out 1
                               go_wp2
                               go_ret
                               exact ⟨by first | rfl | (simp [errW_none, errW_some] <;> rfl) | (simp [*, errW_none, errW_some] <;> rfl), by repeat (first | (with_reducible first | exact HB.out | apply below_alloc | apply pw_below_drewN | apply below_drew1 | refine below_set ?_ GE356.out | refine below_set ?_ GE357.out | refine below_set ?_ GE363.out | refine below_set ?_ GE364.out | refine below_set ?_ GE373.out | refine below_set ?_ GE377.out) | exact HB.out)⟩
                             subst c298
                             have H1 : ((impl_TipSide.f kj266 t378 (wrap64 (60 - t344)) (wrap64 (60 - t343))).bind fun bt407 => (if bt407.2 = true then (some (bt407.1 == (wrap64 (-t347)))) else (some false))) = some r := by rw [if_pos rfl] at H; exact H
                             clear H
                             have H := H1
                             clear H1
                             replace H := Option.bind_eq_some_iff.mp H
                             obtain ⟨⟨t407, t408⟩, A2990, H⟩ := H
                             replace H : (if t408 = true then (some (t407 == (wrap64 (-t347)))) else (some false)) = some r := H
                             have A299 := Aside0.mk A2990
                             clear A2990
                             by_cases c300 : t408 = true
                             ·subst c300
                              have H1 : (some (t407 == (wrap64 (-t347)))) = some r := by rw [if_pos rfl] at H; exact H
                              clear H
                              have H := H1
                              clear H1
                              as_aux_lemma =>
                               obtain rfl := Option.some.inj H
                               have hnb301 := NB373_356.out; have hnc301 := NB356_373.out; have hnb302 := NB373_357.out; have hnc302 := NB357_373.out; have hnb303 := NB373_363.out; have hnc303 := NB363_373.out; have hnb304 := NB373_364.out; have hnc304 := NB364_373.out; have hnb305 := NB373_377.out; have hnc305 := NB377_373.out
                               have hcz306_0 : wc.cell? ⟨gb373, 0, none⟩ = some (.int .i64 t370) := (blk_cell BK373.out 0).trans rfl
                               have hcz306_1 : wc.cell? ⟨gb373, 1, none⟩ = some (.int .i64 t371) := (blk_cell BK373.out 1).trans rfl
                               have hfz306_0 := blk_frozen BK373.out 0
                               have hfz306_1 := blk_frozen BK373.out 1
                               obtain ⟨Ao307, co307, eo307⟩ := Kd.R_slice HO_24.out
                               subst eo307
                               go_wp2_with (first | ((with_reducible refine gate_callee (f := 14) rfl ?_); refine goesL_ (some 334) rfl rfl Try.func14 (by kernel_rfl) rfl #[.slice Ao307 t378.length co307, .int .i64 (wrap64 (60 - t344)), .int .i64 (wrap64 (60 - t343))] rfl (by (try simp only [List.map_toArray, List.map_cons, List.map_nil]); first | done | rfl | (simp only [List.length_drop, List.length_take]; rfl)) ?_; (with_reducible refine (impl_TipSide.calls kj266 _ _ t378 (wrap64 (60 - t344)) (wrap64 (60 - t343)) t407 true _ ?side1 ?side2 A299.out).mono ?_); (case side1 => repeat (first | exact (Kd.R_reads' HO_24.out).2.2 | (with_reducible refine Kd.C_alloc ?_ _) | (with_reducible refine Kd.C_drewN ?_ _) | (with_reducible refine Kd.C_drew ?_))); (case side2 => exact (Kd.R_reads' HO_24.out).2.1); rintro e w308 ⟨rfl, hb⟩; refine ⟨_, rfl, ?_⟩; have n0_ := Aside0.mk (Kd.R_below (by (with_reducible repeat (first | apply Kd.R_alloc | apply Kd.R_drewN | apply Kd.R_drew)); exact HO_3.out) hb); have n1_ := Aside0.mk (Kd.R_below (by (with_reducible repeat (first | apply Kd.R_alloc | apply Kd.R_drewN | apply Kd.R_drew)); exact HO_24.out) hb); have n2_ := Aside0.mk (blk_below (g := gb356) (o := .cells #[.int .i64 t351, .int .i64 t352] 36 (0, 0)) (by (with_reducible repeat first | apply blk_drewN | apply blk_drew | apply blk_alloc); exact BK356.out) hb); have n3_ := Aside0.mk (blk_below (g := gb357) (o := .cells #[.int .i64 t353, .int .i64 t354] 36 (0, 0)) (by (with_reducible repeat first | apply blk_drewN | apply blk_drew | apply blk_alloc); exact BK357.out) hb); have n4_ := Aside0.mk (blk_below (g := gb363) (o := .cells #[.int .i64 t358, .int .i64 t359] 36 (0, 0)) (by (with_reducible repeat first | apply blk_drewN | apply blk_drew | apply blk_alloc); exact BK363.out) hb); have n5_ := Aside0.mk (blk_below (g := gb364) (o := .cells #[.int .i64 t360, .int .i64 t361] 36 (0, 0)) (by (with_reducible repeat first | apply blk_drewN | apply blk_drew | apply blk_alloc); exact BK364.out) hb); have n6_ := Aside0.mk (blk_below (g := gb373) (o := .cells #[.int .i64 t370, .int .i64 t371] 36 (0, 0)) (by (with_reducible repeat first | apply blk_drewN | apply blk_drew | apply blk_alloc); exact BK373.out) hb); have n7_ := Aside0.mk (blk_below (g := gb377) (o := .cells #[.int .i64 t374, .int .i64 t375] 36 (0, 0)) (by (with_reducible repeat first | apply blk_drewN | apply blk_drew | apply blk_alloc); exact BK377.out) hb); have n8_ := Aside0.mk (below_step (by repeat (first | (with_reducible first | exact HB.out | apply below_alloc | apply pw_below_drewN | apply below_drew1 | refine below_set ?_ GE356.out | refine below_set ?_ GE357.out | refine below_set ?_ GE363.out | refine below_set ?_ GE364.out | refine below_set ?_ GE373.out | refine below_set ?_ GE377.out) | exact HB.out)) hb); clear HO_3; clear HO_24; clear BK356; clear BK357; clear BK363; clear BK364; clear BK373; clear BK377; clear HB; have HO_3 := n0_; have HO_24 := n1_; have BK356 := n2_; have BK357 := n3_; have BK363 := n4_; have BK364 := n5_; have BK373 := n6_; have BK377 := n7_; have HB := n8_; clear n0_ n1_ n2_ n3_ n4_ n5_ n6_ n7_ n8_; (try clear hb); (try clear hb2); (try clear hk); (try clear hi)))
                               go_ret
                               exact ⟨by first | rfl | (simp [errW_none, errW_some] <;> rfl) | (simp [*, errW_none, errW_some] <;> rfl), by repeat (first | (with_reducible first | exact HB.out | apply below_alloc | apply pw_below_drewN | apply below_drew1 | refine below_set ?_ GE356.out | refine below_set ?_ GE357.out | refine below_set ?_ GE363.out | refine below_set ?_ GE364.out | refine below_set ?_ GE373.out | refine below_set ?_ GE377.out) | exact HB.out)⟩
                             replace c300 := Bool.eq_false_iff.mpr c300
                             subst c300
                             have H1 : (some false) = some r := by rw [if_neg (show ¬ (false = true) by decide)] at H; exact H
                             clear H
                             have H := H1
                             clear H1
                             as_aux_lemma =>
                              obtain rfl := Option.some.inj H
                              have hnb309 := NB373_356.out; have hnc309 := NB356_373.out; have hnb310 := NB373_357.out; have hnc310 := NB357_373.out; have hnb311 := NB373_363.out; have hnc311 := NB363_373.out; have hnb312 := NB373_364.out; have hnc312 := NB364_373.out; have hnb313 := NB373_377.out; have hnc313 := NB377_373.out
                              have hcz314_0 : wc.cell? ⟨gb373, 0, none⟩ = some (.int .i64 t370) := (blk_cell BK373.out 0).trans rfl
                              have hcz314_1 : wc.cell? ⟨gb373, 1, none⟩ = some (.int .i64 t371) := (blk_cell BK373.out 1).trans rfl
                              have hfz314_0 := blk_frozen BK373.out 0
                              have hfz314_1 := blk_frozen BK373.out 1
                              obtain ⟨Ao315, co315, eo315⟩ := Kd.R_slice HO_24.out
                              subst eo315
                              go_wp2_with (first | ((with_reducible refine gate_callee (f := 14) rfl ?_); refine goesL_ (some 334) rfl rfl Try.func14 (by kernel_rfl) rfl #[.slice Ao315 t378.length co315, .int .i64 (wrap64 (60 - t344)), .int .i64 (wrap64 (60 - t343))] rfl (by (try simp only [List.map_toArray, List.map_cons, List.map_nil]); first | done | rfl | (simp only [List.length_drop, List.length_take]; rfl)) ?_; (with_reducible refine (impl_TipSide.calls kj266 _ _ t378 (wrap64 (60 - t344)) (wrap64 (60 - t343)) t407 false _ ?side1 ?side2 A299.out).mono ?_); (case side1 => repeat (first | exact (Kd.R_reads' HO_24.out).2.2 | (with_reducible refine Kd.C_alloc ?_ _) | (with_reducible refine Kd.C_drewN ?_ _) | (with_reducible refine Kd.C_drew ?_))); (case side2 => exact (Kd.R_reads' HO_24.out).2.1); rintro e w316 ⟨rfl, hb⟩; refine ⟨_, rfl, ?_⟩; have n0_ := Aside0.mk (Kd.R_below (by (with_reducible repeat (first | apply Kd.R_alloc | apply Kd.R_drewN | apply Kd.R_drew)); exact HO_3.out) hb); have n1_ := Aside0.mk (Kd.R_below (by (with_reducible repeat (first | apply Kd.R_alloc | apply Kd.R_drewN | apply Kd.R_drew)); exact HO_24.out) hb); have n2_ := Aside0.mk (blk_below (g := gb356) (o := .cells #[.int .i64 t351, .int .i64 t352] 36 (0, 0)) (by (with_reducible repeat first | apply blk_drewN | apply blk_drew | apply blk_alloc); exact BK356.out) hb); have n3_ := Aside0.mk (blk_below (g := gb357) (o := .cells #[.int .i64 t353, .int .i64 t354] 36 (0, 0)) (by (with_reducible repeat first | apply blk_drewN | apply blk_drew | apply blk_alloc); exact BK357.out) hb); have n4_ := Aside0.mk (blk_below (g := gb363) (o := .cells #[.int .i64 t358, .int .i64 t359] 36 (0, 0)) (by (with_reducible repeat first | apply blk_drewN | apply blk_drew | apply blk_alloc); exact BK363.out) hb); have n5_ := Aside0.mk (blk_below (g := gb364) (o := .cells #[.int .i64 t360, .int .i64 t361] 36 (0, 0)) (by (with_reducible repeat first | apply blk_drewN | apply blk_drew | apply blk_alloc); exact BK364.out) hb); have n6_ := Aside0.mk (blk_below (g := gb373) (o := .cells #[.int .i64 t370, .int .i64 t371] 36 (0, 0)) (by (with_reducible repeat first | apply blk_drewN | apply blk_drew | apply blk_alloc); exact BK373.out) hb); have n7_ := Aside0.mk (blk_below (g := gb377) (o := .cells #[.int .i64 t374, .int .i64 t375] 36 (0, 0)) (by (with_reducible repeat first | apply blk_drewN | apply blk_drew | apply blk_alloc); exact BK377.out) hb); have n8_ := Aside0.mk (below_step (by repeat (first | (with_reducible first | exact HB.out | apply below_alloc | apply pw_below_drewN | apply below_drew1 | refine below_set ?_ GE356.out | refine below_set ?_ GE357.out | refine below_set ?_ GE363.out | refine below_set ?_ GE364.out | refine below_set ?_ GE373.out | refine below_set ?_ GE377.out) | exact HB.out)) hb); clear HO_3; clear HO_24; clear BK356; clear BK357; clear BK363; clear BK364; clear BK373; clear BK377; clear HB; have HO_3 := n0_; have HO_24 := n1_; have BK356 := n2_; have BK357 := n3_; have BK363 := n4_; have BK364 := n5_; have BK373 := n6_; have BK377 := n7_; have HB := n8_; clear n0_ n1_ n2_ n3_ n4_ n5_ n6_ n7_ n8_; (try clear hb); (try clear hb2); (try clear hk); (try clear hi)))
                              go_ret
                              exact ⟨by first | rfl | (simp [errW_none, errW_some] <;> rfl) | (simp [*, errW_none, errW_some] <;> rfl), by repeat (first | (with_reducible first | exact HB.out | apply below_alloc | apply pw_below_drewN | apply below_drew1 | refine below_set ?_ GE356.out | refine below_set ?_ GE357.out | refine below_set ?_ GE363.out | refine below_set ?_ GE364.out | refine below_set ?_ GE373.out | refine below_set ?_ GE377.out) | exact HB.out)⟩
                            rw [if_pos c279] at H
                            have c279b0 : (t371 == 1) = true := beq_iff_eq.mpr c279
                            have c279b1 : (t371 != 1) = false := bne_eq_false_iff_eq.mpr c279
                            clear c279
                            replace H := Option.bind_eq_some_iff.mp H
                            obtain ⟨⟨t403, t404⟩, A2800, H⟩ := H
                            replace H : (if t404 = true then (laws_FnCentres.j9 kj266 t343 t344 t347 t348 t378 (t403 != 0)) else (laws_FnCentres.j9 kj266 t343 t344 t347 t348 t378 true)) = some r := H
                            have A280 := Aside0.mk A2800
                            clear A2800
                            have HC281 := Aside0.mk H
                            clear H; have hnb282 := NB373_356.out; have hnc282 := NB356_373.out; have hnb283 := NB373_357.out; have hnc283 := NB357_373.out; have hnb284 := NB373_363.out; have hnc284 := NB363_373.out; have hnb285 := NB373_364.out; have hnc285 := NB364_373.out; have hnb286 := NB373_377.out; have hnc286 := NB377_373.out
                            have hcz287_0 : wc.cell? ⟨gb373, 0, none⟩ = some (.int .i64 t370) := (blk_cell BK373.out 0).trans rfl
                            have hcz287_1 : wc.cell? ⟨gb373, 1, none⟩ = some (.int .i64 t371) := (blk_cell BK373.out 1).trans rfl
                            have hfz287_0 := blk_frozen BK373.out 0
                            have hfz287_1 := blk_frozen BK373.out 1
                            as_aux_lemma =>
                             go_upto_region 41 with (first | ((with_reducible refine gate_callee (f := 28) rfl ?_); refine goesL_ (some 317) rfl rfl Try.func28 (by kernel_rfl) rfl #[.slice Ao9 t342.length co9, .int .i64 t370] rfl (by (try simp only [List.map_toArray, List.map_cons, List.map_nil]); first | done | rfl | (simp only [List.length_drop, List.length_take]; rfl)) ?_; (with_reducible refine (impl_MomentAbout.calls kj266 _ _ t342 t370 t403 t404 _ ?side1 ?side2 A280.out).mono ?_); (case side1 => repeat (first | exact (Kd.R_reads' HO_3.out).2.2 | (with_reducible refine Kd.C_alloc ?_ _) | (with_reducible refine Kd.C_drewN ?_ _) | (with_reducible refine Kd.C_drew ?_))); (case side2 => exact (Kd.R_reads' HO_3.out).2.1); rintro e w288 ⟨rfl, hb⟩; refine ⟨_, rfl, ?_⟩; have n0_ := Aside0.mk (Kd.R_below (by (with_reducible repeat (first | apply Kd.R_alloc | apply Kd.R_drewN | apply Kd.R_drew)); exact HO_3.out) hb); have n1_ := Aside0.mk (Kd.R_below (by (with_reducible repeat (first | apply Kd.R_alloc | apply Kd.R_drewN | apply Kd.R_drew)); exact HO_24.out) hb); have n2_ := Aside0.mk (blk_below (g := gb356) (o := .cells #[.int .i64 t351, .int .i64 t352] 36 (0, 0)) (by (with_reducible repeat first | apply blk_drewN | apply blk_drew | apply blk_alloc); exact BK356.out) hb); have n3_ := Aside0.mk (blk_below (g := gb357) (o := .cells #[.int .i64 t353, .int .i64 t354] 36 (0, 0)) (by (with_reducible repeat first | apply blk_drewN | apply blk_drew | apply blk_alloc); exact BK357.out) hb); have n4_ := Aside0.mk (blk_below (g := gb363) (o := .cells #[.int .i64 t358, .int .i64 t359] 36 (0, 0)) (by (with_reducible repeat first | apply blk_drewN | apply blk_drew | apply blk_alloc); exact BK363.out) hb); have n5_ := Aside0.mk (blk_below (g := gb364) (o := .cells #[.int .i64 t360, .int .i64 t361] 36 (0, 0)) (by (with_reducible repeat first | apply blk_drewN | apply blk_drew | apply blk_alloc); exact BK364.out) hb); have n6_ := Aside0.mk (blk_below (g := gb373) (o := .cells #[.int .i64 t370, .int .i64 t371] 36 (0, 0)) (by (with_reducible repeat first | apply blk_drewN | apply blk_drew | apply blk_alloc); exact BK373.out) hb); have n7_ := Aside0.mk (blk_below (g := gb377) (o := .cells #[.int .i64 t374, .int .i64 t375] 36 (0, 0)) (by (with_reducible repeat first | apply blk_drewN | apply blk_drew | apply blk_alloc); exact BK377.out) hb); have n8_ := Aside0.mk (below_step (by repeat (first | (with_reducible first | exact HB.out | apply below_alloc | apply pw_below_drewN | apply below_drew1 | refine below_set ?_ GE356.out | refine below_set ?_ GE357.out | refine below_set ?_ GE363.out | refine below_set ?_ GE364.out | refine below_set ?_ GE373.out | refine below_set ?_ GE377.out) | exact HB.out)) hb); clear HO_3; clear HO_24; clear BK356; clear BK357; clear BK363; clear BK364; clear BK373; clear BK377; clear HB; have HO_3 := n0_; have HO_24 := n1_; have BK356 := n2_; have BK357 := n3_; have BK363 := n4_; have BK364 := n5_; have BK373 := n6_; have BK377 := n7_; have HB := n8_; clear n0_ n1_ n2_ n3_ n4_ n5_ n6_ n7_ n8_; (try clear hb); (try clear hb2); (try clear hk); (try clear hi)))
                             (try simp only [Act.put, List.setIfInBounds_toArray, List.set_cons_zero, List.set_cons_succ])
                             go_cut [325] (fun v325 wc => ∃ (kq : Nat) (x325_280 : Bool), v325 = .bool x325_280 ∧ Aside0 (laws_FnCentres.j9 kq t343 t344 t347 t348 t378 x325_280 = some r) ∧ Aside0 (kq ≤ kj266) ∧ Aside0 (Kd.R k33 33 wc w.heap.size (fun _ => True) v380 t378) ∧ Aside0 (wc.heap[gb356]? = some (.cells #[.int .i64 t351, .int .i64 t352] 36 (0, 0))) ∧ Aside0 (wc.heap[gb357]? = some (.cells #[.int .i64 t353, .int .i64 t354] 36 (0, 0))) ∧ Aside0 (wc.heap[gb363]? = some (.cells #[.int .i64 t358, .int .i64 t359] 36 (0, 0))) ∧ Aside0 (wc.heap[gb364]? = some (.cells #[.int .i64 t360, .int .i64 t361] 36 (0, 0))) ∧ Aside0 (wc.heap[gb373]? = some (.cells #[.int .i64 t370, .int .i64 t371] 36 (0, 0))) ∧ Aside0 (wc.heap[gb377]? = some (.cells #[.int .i64 t374, .int .i64 t375] 36 (0, 0))) ∧ Aside0 (Below w.heap.size w wc))
                             case first =>
                              have H := HC281.out
                              clear HC281
                              by_cases c289 : t404 = true
                              ·subst c289
                               have H1 : (laws_FnCentres.j9 kj266 t343 t344 t347 t348 t378 (t403 != 0)) = some r := by rw [if_pos rfl] at H; exact H
                               clear H
                               have H := H1
                               clear H1
                               as_aux_lemma =>
                                have H' := Aside0.mk H
                                clear H
                                go_wp2
                                go_meet
                                case rel => exact ⟨_, ((t403 != 0)), (by first | rfl | (simp; done) | (simp [*]; done) | (simp [bne]; done)), H', ⟨by have := HJ6.out; have := HJ14.out; have := HJ82.out; have := HJ91.out; have := HJ169.out; have := HJ181.out; have := HJ189.out; have := HJ195.out; have := HJ266.out; first | omega | exact Nat.le_refl _⟩, ⟨by (with_reducible repeat (first | apply Kd.R_alloc | apply Kd.R_drewN | apply Kd.R_drew)); exact Kd.R_mono HO_24.out (fun _ hk => trivial)⟩, ⟨by (with_reducible repeat first | apply blk_drewN | apply blk_drew | apply blk_alloc); exact BK356.out⟩, ⟨by (with_reducible repeat first | apply blk_drewN | apply blk_drew | apply blk_alloc); exact BK357.out⟩, ⟨by (with_reducible repeat first | apply blk_drewN | apply blk_drew | apply blk_alloc); exact BK363.out⟩, ⟨by (with_reducible repeat first | apply blk_drewN | apply blk_drew | apply blk_alloc); exact BK364.out⟩, ⟨by (with_reducible repeat first | apply blk_drewN | apply blk_drew | apply blk_alloc); exact BK373.out⟩, ⟨by (with_reducible repeat first | apply blk_drewN | apply blk_drew | apply blk_alloc); exact BK377.out⟩, ⟨by repeat (first | (with_reducible first | exact HB.out | apply below_alloc | apply pw_below_drewN | apply below_drew1 | refine below_set ?_ GE356.out | refine below_set ?_ GE357.out | refine below_set ?_ GE363.out | refine below_set ?_ GE364.out | refine below_set ?_ GE373.out | refine below_set ?_ GE377.out) | exact HB.out)⟩⟩
                              replace c289 := Bool.eq_false_iff.mpr c289
                              subst c289
                              have H1 : (laws_FnCentres.j9 kj266 t343 t344 t347 t348 t378 true) = some r := by rw [if_neg (show ¬ (false = true) by decide)] at H; exact H
                              clear H
                              have H := H1
                              clear H1
                              as_aux_lemma =>
                               have H' := Aside0.mk H
                               clear H
                               go_wp2
                               go_meet
                               case rel => exact ⟨_, (true), (by first | rfl | (simp; done) | (simp [*]; done) | (simp [bne]; done)), H', ⟨by have := HJ6.out; have := HJ14.out; have := HJ82.out; have := HJ91.out; have := HJ169.out; have := HJ181.out; have := HJ189.out; have := HJ195.out; have := HJ266.out; first | omega | exact Nat.le_refl _⟩, ⟨by (with_reducible repeat (first | apply Kd.R_alloc | apply Kd.R_drewN | apply Kd.R_drew)); exact Kd.R_mono HO_24.out (fun _ hk => trivial)⟩, ⟨by (with_reducible repeat first | apply blk_drewN | apply blk_drew | apply blk_alloc); exact BK356.out⟩, ⟨by (with_reducible repeat first | apply blk_drewN | apply blk_drew | apply blk_alloc); exact BK357.out⟩, ⟨by (with_reducible repeat first | apply blk_drewN | apply blk_drew | apply blk_alloc); exact BK363.out⟩, ⟨by (with_reducible repeat first | apply blk_drewN | apply blk_drew | apply blk_alloc); exact BK364.out⟩, ⟨by (with_reducible repeat first | apply blk_drewN | apply blk_drew | apply blk_alloc); exact BK373.out⟩, ⟨by (with_reducible repeat first | apply blk_drewN | apply blk_drew | apply blk_alloc); exact BK377.out⟩, ⟨by repeat (first | (with_reducible first | exact HB.out | apply below_alloc | apply pw_below_drewN | apply below_drew1 | refine below_set ?_ GE356.out | refine below_set ?_ GE357.out | refine below_set ?_ GE363.out | refine below_set ?_ GE364.out | refine below_set ?_ GE373.out | refine below_set ?_ GE377.out) | exact HB.out)⟩⟩
                             case rest =>
                              clear HC281
                              obtain ⟨kq, x325_280, rfl, HA, HJ280, HO_24, BK356, BK357, BK363, BK364, BK373, BK377, HB⟩ := hcut
                              cases kq with
                              | zero => exact absurd HA.out (by simp [laws_FnCentres.j9])
                              | succ kj280 =>
                               have H := HA.out
                               clear HA
                               simp only [laws_FnCentres.j9] at H
                               by_cases c290 : x325_280 = true
                               ·subst c290
                                have H1 : (some false) = some r := by rw [if_pos rfl] at H; exact H
                                clear H
                                have H := H1
                                clear H1
                                as_aux_lemma =>
                                 obtain rfl := Option.some.inj H
                                 go_wp2
                                 go_ret
                                 exact ⟨by first | rfl | (simp [errW_none, errW_some] <;> rfl) | (simp [*, errW_none, errW_some] <;> rfl), by repeat (first | (with_reducible first | exact HB.out | apply below_alloc | apply pw_below_drewN | apply below_drew1 | refine below_set ?_ GE356.out | refine below_set ?_ GE357.out | refine below_set ?_ GE363.out | refine below_set ?_ GE364.out | refine below_set ?_ GE373.out | refine below_set ?_ GE377.out) | exact HB.out)⟩
                               replace c290 := Bool.eq_false_iff.mpr c290
                               subst c290
                               have H1 : (if t348 = true then ((impl_TipSide.f kj280 t378 (wrap64 (60 - t344)) (wrap64 (60 - t343))).bind fun bt405 => (if bt405.2 = true then (some (bt405.1 == (wrap64 (-t347)))) else (some false))) else (some true)) = some r := by rw [if_neg (show ¬ (false = true) by decide)] at H; exact H
                               clear H
                               have H := H1
                               clear H1
                               by_cases c291 : t348 = true
                               rotate_left
                               ·replace c291 := Bool.eq_false_iff.mpr c291
                                subst c291
                                have H1 : (some true) = some r := by rw [if_neg (show ¬ (false = true) by decide)] at H; exact H
                                clear H
                                have H := H1
                                clear H1
                                as_aux_lemma =>
                                 obtain rfl := Option.some.inj H
                                 go_wp2
                                 go_ret
                                 exact ⟨by first | rfl | (simp [errW_none, errW_some] <;> rfl) | (simp [*, errW_none, errW_some] <;> rfl), by repeat (first | (with_reducible first | exact HB.out | apply below_alloc | apply pw_below_drewN | apply below_drew1 | refine below_set ?_ GE356.out | refine below_set ?_ GE357.out | refine below_set ?_ GE363.out | refine below_set ?_ GE364.out | refine below_set ?_ GE373.out | refine below_set ?_ GE377.out) | exact HB.out)⟩
                               subst c291
                               have H1 : ((impl_TipSide.f kj280 t378 (wrap64 (60 - t344)) (wrap64 (60 - t343))).bind fun bt405 => (if bt405.2 = true then (some (bt405.1 == (wrap64 (-t347)))) else (some false))) = some r := by rw [if_pos rfl] at H; exact H
                               clear H
                               have H := H1
                               clear H1
                               replace H := Option.bind_eq_some_iff.mp H
                               obtain ⟨⟨t405, t406⟩, A2920, H⟩ := H
                               replace H : (if t406 = true then (some (t405 == (wrap64 (-t347)))) else (some false)) = some r := H
                               have A292 := Aside0.mk A2920
                               clear A2920
                               by_cases c293 : t406 = true
                               ·subst c293
                                have H1 : (some (t405 == (wrap64 (-t347)))) = some r := by rw [if_pos rfl] at H; exact H
                                clear H
                                have H := H1
                                clear H1
                                as_aux_lemma =>
                                 obtain rfl := Option.some.inj H
                                 obtain ⟨Ao294, co294, eo294⟩ := Kd.R_slice HO_24.out
                                 subst eo294
                                 go_wp2_with (first | ((with_reducible refine gate_callee (f := 14) rfl ?_); refine goesL_ (some 334) rfl rfl Try.func14 (by kernel_rfl) rfl #[.slice Ao294 t378.length co294, .int .i64 (wrap64 (60 - t344)), .int .i64 (wrap64 (60 - t343))] rfl (by (try simp only [List.map_toArray, List.map_cons, List.map_nil]); first | done | rfl | (simp only [List.length_drop, List.length_take]; rfl)) ?_; (with_reducible refine (impl_TipSide.calls kj280 _ _ t378 (wrap64 (60 - t344)) (wrap64 (60 - t343)) t405 true _ ?side1 ?side2 A292.out).mono ?_); (case side1 => repeat (first | exact (Kd.R_reads' HO_24.out).2.2 | (with_reducible refine Kd.C_alloc ?_ _) | (with_reducible refine Kd.C_drewN ?_ _) | (with_reducible refine Kd.C_drew ?_))); (case side2 => exact (Kd.R_reads' HO_24.out).2.1); rintro e w295 ⟨rfl, hb⟩; refine ⟨_, rfl, ?_⟩; have n0_ := Aside0.mk (Kd.R_below (by (with_reducible repeat (first | apply Kd.R_alloc | apply Kd.R_drewN | apply Kd.R_drew)); exact HO_24.out) hb); have n1_ := Aside0.mk (blk_below (g := gb356) (o := .cells #[.int .i64 t351, .int .i64 t352] 36 (0, 0)) (by (with_reducible repeat first | apply blk_drewN | apply blk_drew | apply blk_alloc); exact BK356.out) hb); have n2_ := Aside0.mk (blk_below (g := gb357) (o := .cells #[.int .i64 t353, .int .i64 t354] 36 (0, 0)) (by (with_reducible repeat first | apply blk_drewN | apply blk_drew | apply blk_alloc); exact BK357.out) hb); have n3_ := Aside0.mk (blk_below (g := gb363) (o := .cells #[.int .i64 t358, .int .i64 t359] 36 (0, 0)) (by (with_reducible repeat first | apply blk_drewN | apply blk_drew | apply blk_alloc); exact BK363.out) hb); have n4_ := Aside0.mk (blk_below (g := gb364) (o := .cells #[.int .i64 t360, .int .i64 t361] 36 (0, 0)) (by (with_reducible repeat first | apply blk_drewN | apply blk_drew | apply blk_alloc); exact BK364.out) hb); have n5_ := Aside0.mk (blk_below (g := gb373) (o := .cells #[.int .i64 t370, .int .i64 t371] 36 (0, 0)) (by (with_reducible repeat first | apply blk_drewN | apply blk_drew | apply blk_alloc); exact BK373.out) hb); have n6_ := Aside0.mk (blk_below (g := gb377) (o := .cells #[.int .i64 t374, .int .i64 t375] 36 (0, 0)) (by (with_reducible repeat first | apply blk_drewN | apply blk_drew | apply blk_alloc); exact BK377.out) hb); have n7_ := Aside0.mk (below_step (by repeat (first | (with_reducible first | exact HB.out | apply below_alloc | apply pw_below_drewN | apply below_drew1 | refine below_set ?_ GE356.out | refine below_set ?_ GE357.out | refine below_set ?_ GE363.out | refine below_set ?_ GE364.out | refine below_set ?_ GE373.out | refine below_set ?_ GE377.out) | exact HB.out)) hb); clear HO_24; clear BK356; clear BK357; clear BK363; clear BK364; clear BK373; clear BK377; clear HB; have HO_24 := n0_; have BK356 := n1_; have BK357 := n2_; have BK363 := n3_; have BK364 := n4_; have BK373 := n5_; have BK377 := n6_; have HB := n7_; clear n0_ n1_ n2_ n3_ n4_ n5_ n6_ n7_; (try clear hb); (try clear hb2); (try clear hk); (try clear hi)))
                                 go_ret
                                 exact ⟨by first | rfl | (simp [errW_none, errW_some] <;> rfl) | (simp [*, errW_none, errW_some] <;> rfl), by repeat (first | (with_reducible first | exact HB.out | apply below_alloc | apply pw_below_drewN | apply below_drew1 | refine below_set ?_ GE356.out | refine below_set ?_ GE357.out | refine below_set ?_ GE363.out | refine below_set ?_ GE364.out | refine below_set ?_ GE373.out | refine below_set ?_ GE377.out) | exact HB.out)⟩
                               replace c293 := Bool.eq_false_iff.mpr c293
                               subst c293
                               have H1 : (some false) = some r := by rw [if_neg (show ¬ (false = true) by decide)] at H; exact H
                               clear H
                               have H := H1
                               clear H1
                               as_aux_lemma =>
                                obtain rfl := Option.some.inj H
                                obtain ⟨Ao296, co296, eo296⟩ := Kd.R_slice HO_24.out
                                subst eo296
                                go_wp2_with (first | ((with_reducible refine gate_callee (f := 14) rfl ?_); refine goesL_ (some 334) rfl rfl Try.func14 (by kernel_rfl) rfl #[.slice Ao296 t378.length co296, .int .i64 (wrap64 (60 - t344)), .int .i64 (wrap64 (60 - t343))] rfl (by (try simp only [List.map_toArray, List.map_cons, List.map_nil]); first | done | rfl | (simp only [List.length_drop, List.length_take]; rfl)) ?_; (with_reducible refine (impl_TipSide.calls kj280 _ _ t378 (wrap64 (60 - t344)) (wrap64 (60 - t343)) t405 false _ ?side1 ?side2 A292.out).mono ?_); (case side1 => repeat (first | exact (Kd.R_reads' HO_24.out).2.2 | (with_reducible refine Kd.C_alloc ?_ _) | (with_reducible refine Kd.C_drewN ?_ _) | (with_reducible refine Kd.C_drew ?_))); (case side2 => exact (Kd.R_reads' HO_24.out).2.1); rintro e w297 ⟨rfl, hb⟩; refine ⟨_, rfl, ?_⟩; have n0_ := Aside0.mk (Kd.R_below (by (with_reducible repeat (first | apply Kd.R_alloc | apply Kd.R_drewN | apply Kd.R_drew)); exact HO_24.out) hb); have n1_ := Aside0.mk (blk_below (g := gb356) (o := .cells #[.int .i64 t351, .int .i64 t352] 36 (0, 0)) (by (with_reducible repeat first | apply blk_drewN | apply blk_drew | apply blk_alloc); exact BK356.out) hb); have n2_ := Aside0.mk (blk_below (g := gb357) (o := .cells #[.int .i64 t353, .int .i64 t354] 36 (0, 0)) (by (with_reducible repeat first | apply blk_drewN | apply blk_drew | apply blk_alloc); exact BK357.out) hb); have n3_ := Aside0.mk (blk_below (g := gb363) (o := .cells #[.int .i64 t358, .int .i64 t359] 36 (0, 0)) (by (with_reducible repeat first | apply blk_drewN | apply blk_drew | apply blk_alloc); exact BK363.out) hb); have n4_ := Aside0.mk (blk_below (g := gb364) (o := .cells #[.int .i64 t360, .int .i64 t361] 36 (0, 0)) (by (with_reducible repeat first | apply blk_drewN | apply blk_drew | apply blk_alloc); exact BK364.out) hb); have n5_ := Aside0.mk (blk_below (g := gb373) (o := .cells #[.int .i64 t370, .int .i64 t371] 36 (0, 0)) (by (with_reducible repeat first | apply blk_drewN | apply blk_drew | apply blk_alloc); exact BK373.out) hb); have n6_ := Aside0.mk (blk_below (g := gb377) (o := .cells #[.int .i64 t374, .int .i64 t375] 36 (0, 0)) (by (with_reducible repeat first | apply blk_drewN | apply blk_drew | apply blk_alloc); exact BK377.out) hb); have n7_ := Aside0.mk (below_step (by repeat (first | (with_reducible first | exact HB.out | apply below_alloc | apply pw_below_drewN | apply below_drew1 | refine below_set ?_ GE356.out | refine below_set ?_ GE357.out | refine below_set ?_ GE363.out | refine below_set ?_ GE364.out | refine below_set ?_ GE373.out | refine below_set ?_ GE377.out) | exact HB.out)) hb); clear HO_24; clear BK356; clear BK357; clear BK363; clear BK364; clear BK373; clear BK377; clear HB; have HO_24 := n0_; have BK356 := n1_; have BK357 := n2_; have BK363 := n3_; have BK364 := n4_; have BK373 := n5_; have BK377 := n6_; have HB := n7_; clear n0_ n1_ n2_ n3_ n4_ n5_ n6_ n7_; (try clear hb); (try clear hb2); (try clear hk); (try clear hi)))
                                go_ret
                                exact ⟨by first | rfl | (simp [errW_none, errW_some] <;> rfl) | (simp [*, errW_none, errW_some] <;> rfl), by repeat (first | (with_reducible first | exact HB.out | apply below_alloc | apply pw_below_drewN | apply below_drew1 | refine below_set ?_ GE356.out | refine below_set ?_ GE357.out | refine below_set ?_ GE363.out | refine below_set ?_ GE364.out | refine below_set ?_ GE373.out | refine below_set ?_ GE377.out) | exact HB.out)⟩
/-- THE ONE PURE STATEMENT of laws_FnCentres: yours. -/
theorem laws_FnCentres.walk (P : laws_FnCentres.Pure) (a0 : Option Addr) (len0 cap0 : Nat) (z0 : List Int) (w : World) (w0 : (a0 = none ∧ len0 = 0 ∧ cap0 = 0 ∧ z0 = []) ∨ ∃ x, a0 = some x ∧ len0 ≤ cap0 ∧ cap0 ≤ maxLen ∧ z0.length = cap0 ∧ (∀ i, i < z0.length → w.cell? (x.add i) = some (.int .u8 (z0.getD i 0))) ∧ ∀ n ∈ z0, (Lit.int .u8 n).wf = true) (y0 : len0 * 1 ≤ 140737488351232) :
  Calls Try.prog 4 #[.slice a0 len0 cap0] w fun e w' => e = .returned (.bool true) ∧ Below w.heap.size w w' := by
 obtain ⟨l0, rfl, hr0, hm0, hw0, hc0⟩ := ReadsInt.ofRowC w0
 obtain ⟨k, h⟩ := P l0 hm0 y0 hw0
 refine (laws_FnCentres.calls k _ _ l0 true w (Kd.C_of_reads (d := (0 : Int)) (h1 := fun _ => rfl) hr0) hc0 h).mono ?_
 rintro e w' ⟨rfl, hd⟩
 exact ⟨rfl, hd⟩

end Go.Proofs.Ytfjcnpoigndfjaa.PFnCentres
