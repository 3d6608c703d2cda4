-- Made by wip/pr.py of this repo over the kit's print (some contracts by hand).
import Derived.Test.YthgfndbbbhbkeaaGreatDoorSq
import Derived.Test.YthgfndbbbhbkeaaGreatDoorPFnRowsx0
import Derived.Test.YthgfndbbbhbkeaaGreatDoorPFnRowsx2
import Derived.Test.YthgfndbbbhbkeaaGreatDoorPFnRowsx3
import Derived.Test.YthgfndbbbhbkeaaGreatDoorPFnRowsx4
import Derived.Test.YthgfndbbbhbkeaaGreatDoorPFnRowsx5
import Derived.Test.YthgfndbbbhbkeaaGreatDoorPFnRowsx6
import Derived.Test.YthgfndbbbhbkeaaGreatDoorPFnRowsx7
import Derived.Test.YthgfndbbbhbkeaaGreatDoorPFnRowsx8
import Derived.Test.YthgfndbbbhbkeaaGreatDoorPFnRowsx9
import Derived.Test.YthgfndbbbhbkeaaGreatDoorPFnRowsx10
import Derived.Test.YthgfndbbbhbkeaaGreatDoorPFnRowsx11
import Derived.Test.YthgfndbbbhbkeaaGreatDoorPFnRowsx12
namespace Go.Proofs.YthgfndbbbhbkeaaGreatDoor.PFnRows
open Go.RowKit Go.Proofs.YthgfndbbbhbkeaaGreatDoorW.PrintWords Go.Proofs.YthgfndbbbhbkeaaGreatDoorW.PrintLast Go.Proofs.YthgfndbbbhbkeaaGreatDoorW.PrintMore
attribute [local go_sem] max2_int min2_int max_two min_two max_three min_three max_four min_four   -- for this text's walks alone
set_option linter.unusedVariables false
set_option linter.unusedSimpArgs false
set_option maxHeartbeats 8000000 in
set_option maxRecDepth 100000 in
theorem laws_FnRows.calls (k : Nat) (A0 : Option Addr) (c0 : Nat) (l0 : List Int) (r : Bool) (w : World) (hr0 : Kd.C (Kd.int .u8) w A0 l0.length l0) (hc0 : l0.length ≤ c0) (h : laws_FnRows.f k l0 = some r) (hT : Tabs w) (hr : r = true) :
  Calls Tryz.prog 3 #[.slice A0 l0.length c0] w fun e w' => e = .returned (.bool r) ∧ Below w.heap.size w w' := by
 have HT := Aside0.mk hT
 clear hT
 have HR0 := Aside0.mk hr0
 have HC0 := Aside0.mk hc0
 clear hr0 hc0
 have HB := Aside0.mk (Below.refl w.heap.size w)
 have H : ((laws_rBig.f l0).bind fun t506 => (if t506 = true then (some true) else ((spec_DrawJoinRows.f k l0).bind fun bt507 => ((impl_JoinRows.f k bt507.1 bt507.2).bind fun bt513 => ((spec_JoinRows.f k bt507.1 bt507.2).bind fun bt517 => (if (bt513.2 != bt517.2) = true then (laws_FnRows.j0 k l0 bt507.1 bt507.2 bt513.1 bt513.2 true) else ((laws_rRow.f k bt513.1 bt517.1).bind fun t521 => (laws_FnRows.j0 k l0 bt507.1 bt507.2 bt513.1 bt513.2 (!t521))))))))) = some r := h
 clear h
 replace H := Option.bind_eq_some_iff.mp H
 obtain ⟨t506, A20, H⟩ := H
 try dsimp only at H
 have A2 := Aside0.mk A20
 clear A20
 by_cases c3 : t506 = true
 ·subst c3
  rw [if_pos rfl] at H
  as_aux_lemma =>
   obtain rfl := Option.some.inj H
   go_enter Tryz.func3, Tryz.ntmps3
   go_wp2_with (first | (go_at_call 4; (with_reducible refine (laws_rBig.calls _ _ l0 true _ (Sq.C (HR0.out)) HC0.out A2.out).mono ?_); rintro e w' ⟨rfl, ⟨nd, rfl⟩⟩; (try first | exact ⟨rfl, _, Sq.dd⟩ | exact ⟨rfl, _, Sq.de⟩)))
   repeat (go_quiet (first | (go_at_call 4; (with_reducible refine (laws_rBig.calls _ _ l0 true _ (Sq.C (HR0.out)) HC0.out A2.out).mono ?_); rintro e w' ⟨rfl, ⟨nd, rfl⟩⟩; (try first | exact ⟨rfl, _, Sq.dd⟩ | exact ⟨rfl, _, Sq.de⟩))); try go_wp2_with (first | (go_at_call 4; (with_reducible refine (laws_rBig.calls _ _ l0 true _ (Sq.C (HR0.out)) HC0.out A2.out).mono ?_); rintro e w' ⟨rfl, ⟨nd, rfl⟩⟩; (try first | exact ⟨rfl, _, Sq.dd⟩ | exact ⟨rfl, _, Sq.de⟩))))
   go_ret
   exact ⟨by first | rfl | (simp [errW_none, errW_some] <;> rfl) | (simp [*, errW_none, errW_some] <;> rfl), Sq.B HB⟩
 replace c3 := Bool.eq_false_iff.mpr c3
 subst c3
 rw [if_neg (show ¬ (false = true) by decide)] at H
 replace H := Option.bind_eq_some_iff.mp H
 obtain ⟨⟨t507, t508⟩, A40, H⟩ := H
 try dsimp only at H
 have A4 := Aside0.mk A40
 clear A40
 replace H := Option.bind_eq_some_iff.mp H
 obtain ⟨⟨t513, t516⟩, A50, H⟩ := H
 try dsimp only at H
 have A5 := Aside0.mk A50
 clear A50
 replace H := Option.bind_eq_some_iff.mp H
 obtain ⟨⟨t517, t518⟩, A60, H⟩ := H
 try dsimp only at H
 have A6 := Aside0.mk A60
 clear A60
 have HC7 := Aside0.mk H
 clear H
 go_enter Tryz.func3, Tryz.ntmps3
 as_aux_lemma =>
  go_upto_region 6 with (first | (go_at_call 4; (with_reducible refine (laws_rBig.calls _ _ l0 false _ (Sq.C (HR0.out)) HC0.out A2.out).mono ?_); rintro e w' ⟨rfl, ⟨nd, rfl⟩⟩; (try first | exact ⟨rfl, _, Sq.dd⟩ | exact ⟨rfl, _, Sq.de⟩)) | (go_at_call 5; (with_reducible refine (spec_DrawJoinRows.calls k _ _ l0 t507 t508 _ (Sq.C (HR0.out)) HC0.out A4.out).mono ?_); rintro e w8 ⟨v509, v511, rfl, ho0, ho1, hb⟩; have HO510 := Sq.L ho0 HB; have HO512 := Sq.L ho1 HB; replace HB := Sq.S HB hb; clear hb ho0 ho1; obtain ⟨Ao9, co9, rfl⟩ := Kd.R_slice HO510.out; obtain ⟨Ao10, co10, rfl⟩ := Kd.R_slice HO512.out) | (go_at_call 6; (with_reducible refine (impl_JoinRows.calls k (fun k_ => some k_ = (.slice Ao9 t507.length co9 : Value).ownBlock) _ _ t507 (fun k_ => some k_ = (.slice Ao10 t508.length co10 : Value).ownBlock) _ _ t508 t513 t516 _ ?side1 ?side2 A5.out).mono ?_); (case side1 => exact Kd.R_V (Kd.R_tight rfl (HO510.out))); (case side2 => exact Kd.R_V (Kd.R_tight rfl (HO512.out))); rintro e w11 ⟨v514, rfl, ho0, hb⟩; have HO515 := Sq.L (Sq.N (Sq.N (Kd.R_mono (ok' := fun k_ => True) ho0 (fun _ hk_ => trivial)) HO510) HO512) HB; replace HO510 := Sq.E HO510 ho0 hb; replace HO512 := Sq.E HO512 ho0 hb; replace HB := Sq.S HB hb; clear hb ho0) | (go_at_call 7; (with_reducible refine (spec_JoinRows.calls k _ _ t507 _ _ t508 t517 t518 _ (Sq.r HO510) (Sq.n HO510) (Sq.r HO512) (Sq.n HO512) A6.out).mono ?_); rintro e w12 ⟨v519, rfl, ho0, hb⟩; have HO520 := Sq.L (Sq.N (Sq.N (Sq.N ho0 HO510) HO512) HO515) HB; replace HO510 := Sq.E HO510 ho0 hb; replace HO512 := Sq.E HO512 ho0 hb; replace HO515 := Sq.E HO515 ho0 hb; replace HB := Sq.S HB hb; clear hb ho0))
  repeat (go_quiet (first | (go_at_call 4; (with_reducible refine (laws_rBig.calls _ _ l0 false _ (Sq.C (HR0.out)) HC0.out A2.out).mono ?_); rintro e w' ⟨rfl, ⟨nd, rfl⟩⟩; (try first | exact ⟨rfl, _, Sq.dd⟩ | exact ⟨rfl, _, Sq.de⟩)) | (go_at_call 5; (with_reducible refine (spec_DrawJoinRows.calls k _ _ l0 t507 t508 _ (Sq.C (HR0.out)) HC0.out A4.out).mono ?_); rintro e w8 ⟨v509, v511, rfl, ho0, ho1, hb⟩; have HO510 := Sq.L ho0 HB; have HO512 := Sq.L ho1 HB; replace HB := Sq.S HB hb; clear hb ho0 ho1; obtain ⟨Ao9, co9, rfl⟩ := Kd.R_slice HO510.out; obtain ⟨Ao10, co10, rfl⟩ := Kd.R_slice HO512.out) | (go_at_call 6; (with_reducible refine (impl_JoinRows.calls k (fun k_ => some k_ = (.slice Ao9 t507.length co9 : Value).ownBlock) _ _ t507 (fun k_ => some k_ = (.slice Ao10 t508.length co10 : Value).ownBlock) _ _ t508 t513 t516 _ ?side1 ?side2 A5.out).mono ?_); (case side1 => exact Kd.R_V (Kd.R_tight rfl (HO510.out))); (case side2 => exact Kd.R_V (Kd.R_tight rfl (HO512.out))); rintro e w11 ⟨v514, rfl, ho0, hb⟩; have HO515 := Sq.L (Sq.N (Sq.N (Kd.R_mono (ok' := fun k_ => True) ho0 (fun _ hk_ => trivial)) HO510) HO512) HB; replace HO510 := Sq.E HO510 ho0 hb; replace HO512 := Sq.E HO512 ho0 hb; replace HB := Sq.S HB hb; clear hb ho0) | (go_at_call 7; (with_reducible refine (spec_JoinRows.calls k _ _ t507 _ _ t508 t517 t518 _ (Sq.r HO510) (Sq.n HO510) (Sq.r HO512) (Sq.n HO512) A6.out).mono ?_); rintro e w12 ⟨v519, rfl, ho0, hb⟩; have HO520 := Sq.L (Sq.N (Sq.N (Sq.N ho0 HO510) HO512) HO515) HB; replace HO510 := Sq.E HO510 ho0 hb; replace HO512 := Sq.E HO512 ho0 hb; replace HO515 := Sq.E HO515 ho0 hb; replace HB := Sq.S HB hb; clear hb ho0)); go_upto_region 6 with (first | (go_at_call 4; (with_reducible refine (laws_rBig.calls _ _ l0 false _ (Sq.C (HR0.out)) HC0.out A2.out).mono ?_); rintro e w' ⟨rfl, ⟨nd, rfl⟩⟩; (try first | exact ⟨rfl, _, Sq.dd⟩ | exact ⟨rfl, _, Sq.de⟩)) | (go_at_call 5; (with_reducible refine (spec_DrawJoinRows.calls k _ _ l0 t507 t508 _ (Sq.C (HR0.out)) HC0.out A4.out).mono ?_); rintro e w8 ⟨v509, v511, rfl, ho0, ho1, hb⟩; have HO510 := Sq.L ho0 HB; have HO512 := Sq.L ho1 HB; replace HB := Sq.S HB hb; clear hb ho0 ho1; obtain ⟨Ao9, co9, rfl⟩ := Kd.R_slice HO510.out; obtain ⟨Ao10, co10, rfl⟩ := Kd.R_slice HO512.out) | (go_at_call 6; (with_reducible refine (impl_JoinRows.calls k (fun k_ => some k_ = (.slice Ao9 t507.length co9 : Value).ownBlock) _ _ t507 (fun k_ => some k_ = (.slice Ao10 t508.length co10 : Value).ownBlock) _ _ t508 t513 t516 _ ?side1 ?side2 A5.out).mono ?_); (case side1 => exact Kd.R_V (Kd.R_tight rfl (HO510.out))); (case side2 => exact Kd.R_V (Kd.R_tight rfl (HO512.out))); rintro e w11 ⟨v514, rfl, ho0, hb⟩; have HO515 := Sq.L (Sq.N (Sq.N (Kd.R_mono (ok' := fun k_ => True) ho0 (fun _ hk_ => trivial)) HO510) HO512) HB; replace HO510 := Sq.E HO510 ho0 hb; replace HO512 := Sq.E HO512 ho0 hb; replace HB := Sq.S HB hb; clear hb ho0) | (go_at_call 7; (with_reducible refine (spec_JoinRows.calls k _ _ t507 _ _ t508 t517 t518 _ (Sq.r HO510) (Sq.n HO510) (Sq.r HO512) (Sq.n HO512) A6.out).mono ?_); rintro e w12 ⟨v519, rfl, ho0, hb⟩; have HO520 := Sq.L (Sq.N (Sq.N (Sq.N ho0 HO510) HO512) HO515) HB; replace HO510 := Sq.E HO510 ho0 hb; replace HO512 := Sq.E HO512 ho0 hb; replace HO515 := Sq.E HO515 ho0 hb; replace HB := Sq.S HB hb; clear hb ho0)))
  (try simp only [Act.put, List.setIfInBounds_toArray, List.set_cons_zero, List.set_cons_succ])
  go_cut [83] (fun v83 wc => ∃ (kq : Nat) (x83_6 : Bool), v83 = .bool x83_6 ∧ Aside0 (laws_FnRows.j0 kq l0 t507 t508 t513 t516 x83_6 = some r) ∧ Aside0 (kq ≤ k) ∧ Aside0 (Kd.R k42 42 wc w.heap.size (fun k_ => some k_ ≠ ((.slice Ao10 t508.length co10) : Value).ownBlock ∧ some k_ ≠ (v514 : Value).ownBlock) (.slice Ao9 t507.length co9) t507) ∧ Aside0 (Kd.R k42 42 wc w.heap.size (fun k_ => some k_ ≠ ((.slice Ao9 t507.length co9) : Value).ownBlock ∧ some k_ ≠ (v514 : Value).ownBlock) (.slice Ao10 t508.length co10) t508) ∧ Aside0 (Kd.R k42 42 wc w.heap.size (fun k_ => some k_ ≠ ((.slice Ao9 t507.length co9) : Value).ownBlock ∧ some k_ ≠ ((.slice Ao10 t508.length co10) : Value).ownBlock) v514 t513) ∧ Aside0 (Below w.heap.size w wc))
  case first =>
   have H := HC7.out
   clear HC7
   by_cases c13 : (t516 != t518) = true
   ·rw [if_pos c13] at H
    have c13b0 : (t516 != t518) = true := c13
    (try (have c13b1 : decide (t516 = t518) = false := by simpa using c13))
    (try (have c13b2 : (t516 == t518) = false := by simpa using c13))
    (try (have c13b3 : ¬ (t516 = t518) := by simpa using c13))
    clear c13
    (first | rw [c13b0] | (simp only [i64_w, i32_w]; rw [c13b0]) | skip)
    exact (laws_FnRows.j0_bad _ H hr).elim
   rw [if_neg c13] at H
   have c13b0 : (t516 != t518) = false := by simpa using c13
   (try (have c13b1 : decide (t516 = t518) = true := by simpa using c13))
   (try (have c13b2 : (t516 == t518) = true := by simpa using c13))
   clear c13
   (first | rw [c13b0] | (simp only [i64_w, i32_w]; rw [c13b0]) | skip)
   replace H := Option.bind_eq_some_iff.mp H
   obtain ⟨t521, A140, H⟩ := H
   try dsimp only at H
   have A14 := Aside0.mk A140
   clear A140
   as_aux_lemma =>
    have H' := Aside0.mk H
    clear H
    obtain ⟨Ao15, co15, rfl⟩ := Kd.R_slice HO515.out
    obtain ⟨Ao16, co16, rfl⟩ := Kd.R_slice HO520.out
    go_wp2_with (first | (go_at_call 8; (with_reducible refine (laws_rRow.calls k _ _ t513 _ _ t517 t521 _ (Sq.r HO515) (Sq.n HO515) (Sq.r HO520) (Sq.n HO520) A14.out).mono ?_); rintro e w' ⟨rfl, ⟨nd, rfl⟩⟩; (try first | exact ⟨rfl, _, Sq.dd⟩ | exact ⟨rfl, _, Sq.de⟩)))
    repeat (go_quiet (first | (go_at_call 8; (with_reducible refine (laws_rRow.calls k _ _ t513 _ _ t517 t521 _ (Sq.r HO515) (Sq.n HO515) (Sq.r HO520) (Sq.n HO520) A14.out).mono ?_); rintro e w' ⟨rfl, ⟨nd, rfl⟩⟩; (try first | exact ⟨rfl, _, Sq.dd⟩ | exact ⟨rfl, _, Sq.de⟩))); try go_wp2_with (first | (go_at_call 8; (with_reducible refine (laws_rRow.calls k _ _ t513 _ _ t517 t521 _ (Sq.r HO515) (Sq.n HO515) (Sq.r HO520) (Sq.n HO520) A14.out).mono ?_); rintro e w' ⟨rfl, ⟨nd, rfl⟩⟩; (try first | exact ⟨rfl, _, Sq.dd⟩ | exact ⟨rfl, _, Sq.de⟩))))
    go_meet
    case rel => exact ⟨_, (!t521), (by first | rfl | (simp; done) | (simp [*]; done) | (simp [bne]; done)), H', ⟨by first | omega | exact Nat.le_refl _⟩, ⟨Kd.R_mono (Sq.R HO510) (fun _ hk => ⟨hk.1.1, hk.1.2⟩)⟩, ⟨Kd.R_mono (Sq.R HO512) (fun _ hk => ⟨hk.1.1, hk.1.2⟩)⟩, ⟨Kd.R_mono (Sq.R HO515) (fun _ hk => ⟨hk.1.1.2, hk.1.2⟩)⟩, ⟨Sq.B HB⟩⟩
  case rest =>
   clear HC7
   obtain ⟨kq, x83_6, rfl, HA, HJ6, HO_3, HO_4, HO_5, HB⟩ := hcut
   cases kq with
   | zero => exact absurd HA.out (by simp [laws_FnRows.j0])
   | succ kj6 =>
    have H := HA.out
    clear HA
    simp only [laws_FnRows.j0] at H
    by_cases c17 : x83_6 = true
    ·subst c17
     rw [if_pos rfl] at H
     obtain rfl := Option.some.inj H
     cases hr
    replace c17 := Bool.eq_false_iff.mpr c17
    subst c17
    rw [if_neg (show ¬ (false = true) by decide)] at H
    replace H := Option.bind_eq_some_iff.mp H
    obtain ⟨t522, A180, H⟩ := H
    try dsimp only at H
    have A18 := Aside0.mk A180
    clear A180
    replace H := Option.bind_eq_some_iff.mp H
    obtain ⟨⟨t525, t526⟩, A190, H⟩ := H
    try dsimp only at H
    have A19 := Aside0.mk A190
    clear A190
    replace H := Option.bind_eq_some_iff.mp H
    obtain ⟨⟨t529, t530⟩, A200, H⟩ := H
    try dsimp only at H
    have A20 := Aside0.mk A200
    clear A200
    have HC21 := Aside0.mk H
    clear H
    as_aux_lemma =>
     go_upto_region 11 with (first | (go_at_call 9; (with_reducible refine (spec_DrawMergeRow.calls kj6 _ _ l0 t522 _ (Sq.C ((Kd.C_below HR0.out HB.out))) HC0.out A18.out).mono ?_); rintro e w22 ⟨v523, rfl, ho0, hb⟩; have HO524 := Sq.L (Sq.N (Sq.N (Sq.N ho0 HO_3) HO_4) HO_5) HB; replace HO_3 := Sq.E HO_3 ho0 hb; replace HO_4 := Sq.E HO_4 ho0 hb; replace HO_5 := Sq.E HO_5 ho0 hb; replace HB := Sq.S HB hb; clear hb ho0; obtain ⟨Ao23, co23, rfl⟩ := Kd.R_slice HO524.out) | (go_at_call 10; (with_reducible refine (impl_MergeRow.calls kj6 _ _ t522 t525 t526 _ (Sq.r HO524) (Sq.n HO524) A19.out).mono ?_); rintro e w24 ⟨v527, rfl, ho0, hb⟩; have HO528 := Sq.L (Sq.N (Sq.N (Sq.N (Sq.N ho0 HO_3) HO_4) HO_5) HO524) HB; replace HO_3 := Sq.E HO_3 ho0 hb; replace HO_4 := Sq.E HO_4 ho0 hb; replace HO_5 := Sq.E HO_5 ho0 hb; replace HO524 := Sq.E HO524 ho0 hb; replace HB := Sq.S HB hb; clear hb ho0) | (go_at_call 11; (with_reducible refine (spec_MergeRow.calls kj6 _ _ t522 t529 t530 _ (Sq.r HO524) (Sq.n HO524) A20.out).mono ?_); rintro e w25 ⟨v531, rfl, ho0, hb⟩; have HO532 := Sq.L (Sq.N (Sq.N (Sq.N (Sq.N (Sq.N ho0 HO_3) HO_4) HO_5) HO524) HO528) HB; replace HO_3 := Sq.E HO_3 ho0 hb; replace HO_4 := Sq.E HO_4 ho0 hb; replace HO_5 := Sq.E HO_5 ho0 hb; replace HO524 := Sq.E HO524 ho0 hb; replace HO528 := Sq.E HO528 ho0 hb; replace HB := Sq.S HB hb; clear hb ho0))
     repeat (go_quiet (first | (go_at_call 9; (with_reducible refine (spec_DrawMergeRow.calls kj6 _ _ l0 t522 _ (Sq.C ((Kd.C_below HR0.out HB.out))) HC0.out A18.out).mono ?_); rintro e w22 ⟨v523, rfl, ho0, hb⟩; have HO524 := Sq.L (Sq.N (Sq.N (Sq.N ho0 HO_3) HO_4) HO_5) HB; replace HO_3 := Sq.E HO_3 ho0 hb; replace HO_4 := Sq.E HO_4 ho0 hb; replace HO_5 := Sq.E HO_5 ho0 hb; replace HB := Sq.S HB hb; clear hb ho0; obtain ⟨Ao23, co23, rfl⟩ := Kd.R_slice HO524.out) | (go_at_call 10; (with_reducible refine (impl_MergeRow.calls kj6 _ _ t522 t525 t526 _ (Sq.r HO524) (Sq.n HO524) A19.out).mono ?_); rintro e w24 ⟨v527, rfl, ho0, hb⟩; have HO528 := Sq.L (Sq.N (Sq.N (Sq.N (Sq.N ho0 HO_3) HO_4) HO_5) HO524) HB; replace HO_3 := Sq.E HO_3 ho0 hb; replace HO_4 := Sq.E HO_4 ho0 hb; replace HO_5 := Sq.E HO_5 ho0 hb; replace HO524 := Sq.E HO524 ho0 hb; replace HB := Sq.S HB hb; clear hb ho0) | (go_at_call 11; (with_reducible refine (spec_MergeRow.calls kj6 _ _ t522 t529 t530 _ (Sq.r HO524) (Sq.n HO524) A20.out).mono ?_); rintro e w25 ⟨v531, rfl, ho0, hb⟩; have HO532 := Sq.L (Sq.N (Sq.N (Sq.N (Sq.N (Sq.N ho0 HO_3) HO_4) HO_5) HO524) HO528) HB; replace HO_3 := Sq.E HO_3 ho0 hb; replace HO_4 := Sq.E HO_4 ho0 hb; replace HO_5 := Sq.E HO_5 ho0 hb; replace HO524 := Sq.E HO524 ho0 hb; replace HO528 := Sq.E HO528 ho0 hb; replace HB := Sq.S HB hb; clear hb ho0)); go_upto_region 11 with (first | (go_at_call 9; (with_reducible refine (spec_DrawMergeRow.calls kj6 _ _ l0 t522 _ (Sq.C ((Kd.C_below HR0.out HB.out))) HC0.out A18.out).mono ?_); rintro e w22 ⟨v523, rfl, ho0, hb⟩; have HO524 := Sq.L (Sq.N (Sq.N (Sq.N ho0 HO_3) HO_4) HO_5) HB; replace HO_3 := Sq.E HO_3 ho0 hb; replace HO_4 := Sq.E HO_4 ho0 hb; replace HO_5 := Sq.E HO_5 ho0 hb; replace HB := Sq.S HB hb; clear hb ho0; obtain ⟨Ao23, co23, rfl⟩ := Kd.R_slice HO524.out) | (go_at_call 10; (with_reducible refine (impl_MergeRow.calls kj6 _ _ t522 t525 t526 _ (Sq.r HO524) (Sq.n HO524) A19.out).mono ?_); rintro e w24 ⟨v527, rfl, ho0, hb⟩; have HO528 := Sq.L (Sq.N (Sq.N (Sq.N (Sq.N ho0 HO_3) HO_4) HO_5) HO524) HB; replace HO_3 := Sq.E HO_3 ho0 hb; replace HO_4 := Sq.E HO_4 ho0 hb; replace HO_5 := Sq.E HO_5 ho0 hb; replace HO524 := Sq.E HO524 ho0 hb; replace HB := Sq.S HB hb; clear hb ho0) | (go_at_call 11; (with_reducible refine (spec_MergeRow.calls kj6 _ _ t522 t529 t530 _ (Sq.r HO524) (Sq.n HO524) A20.out).mono ?_); rintro e w25 ⟨v531, rfl, ho0, hb⟩; have HO532 := Sq.L (Sq.N (Sq.N (Sq.N (Sq.N (Sq.N ho0 HO_3) HO_4) HO_5) HO524) HO528) HB; replace HO_3 := Sq.E HO_3 ho0 hb; replace HO_4 := Sq.E HO_4 ho0 hb; replace HO_5 := Sq.E HO_5 ho0 hb; replace HO524 := Sq.E HO524 ho0 hb; replace HO528 := Sq.E HO528 ho0 hb; replace HB := Sq.S HB hb; clear hb ho0)))
     (try simp only [Act.put, List.setIfInBounds_toArray, List.set_cons_zero, List.set_cons_succ])
     go_cut [104] (fun v104 wc => ∃ (kq : Nat) (x104_20 : Bool), v104 = .bool x104_20 ∧ Aside0 (laws_FnRows.j1 kq l0 t507 t508 t513 t516 t522 t525 t526 x104_20 = some r) ∧ Aside0 (kq ≤ kj6) ∧ Aside0 (Kd.R k42 42 wc w.heap.size (fun k_ => some k_ ≠ ((.slice Ao10 t508.length co10) : Value).ownBlock ∧ some k_ ≠ (v514 : Value).ownBlock ∧ some k_ ≠ ((.slice Ao23 t522.length co23) : Value).ownBlock ∧ some k_ ≠ (v527 : Value).ownBlock) (.slice Ao9 t507.length co9) t507) ∧ Aside0 (Kd.R k42 42 wc w.heap.size (fun k_ => some k_ ≠ ((.slice Ao9 t507.length co9) : Value).ownBlock ∧ some k_ ≠ (v514 : Value).ownBlock ∧ some k_ ≠ ((.slice Ao23 t522.length co23) : Value).ownBlock ∧ some k_ ≠ (v527 : Value).ownBlock) (.slice Ao10 t508.length co10) t508) ∧ Aside0 (Kd.R k42 42 wc w.heap.size (fun k_ => some k_ ≠ ((.slice Ao9 t507.length co9) : Value).ownBlock ∧ some k_ ≠ ((.slice Ao10 t508.length co10) : Value).ownBlock ∧ some k_ ≠ ((.slice Ao23 t522.length co23) : Value).ownBlock ∧ some k_ ≠ (v527 : Value).ownBlock) v514 t513) ∧ Aside0 (Kd.R k42 42 wc w.heap.size (fun k_ => some k_ ≠ ((.slice Ao9 t507.length co9) : Value).ownBlock ∧ some k_ ≠ ((.slice Ao10 t508.length co10) : Value).ownBlock ∧ some k_ ≠ (v514 : Value).ownBlock ∧ some k_ ≠ (v527 : Value).ownBlock) (.slice Ao23 t522.length co23) t522) ∧ Aside0 (Kd.R k42 42 wc w.heap.size (fun k_ => some k_ ≠ ((.slice Ao9 t507.length co9) : Value).ownBlock ∧ some k_ ≠ ((.slice Ao10 t508.length co10) : Value).ownBlock ∧ some k_ ≠ (v514 : Value).ownBlock ∧ some k_ ≠ ((.slice Ao23 t522.length co23) : Value).ownBlock) v527 t525) ∧ Aside0 (Below w.heap.size w wc))
     case first =>
      have H := HC21.out
      clear HC21
      by_cases c26 : (t526 != t530) = true
      ·rw [if_pos c26] at H
       have c26b0 : (t526 != t530) = true := c26
       (try (have c26b1 : decide (t526 = t530) = false := by simpa using c26))
       (try (have c26b2 : (t526 == t530) = false := by simpa using c26))
       (try (have c26b3 : ¬ (t526 = t530) := by simpa using c26))
       clear c26
       (first | rw [c26b0] | (simp only [i64_w, i32_w]; rw [c26b0]) | skip)
       exact (laws_FnRows.j1_bad _ H hr).elim
      rw [if_neg c26] at H
      have c26b0 : (t526 != t530) = false := by simpa using c26
      (try (have c26b1 : decide (t526 = t530) = true := by simpa using c26))
      (try (have c26b2 : (t526 == t530) = true := by simpa using c26))
      clear c26
      (first | rw [c26b0] | (simp only [i64_w, i32_w]; rw [c26b0]) | skip)
      replace H := Option.bind_eq_some_iff.mp H
      obtain ⟨t533, A270, H⟩ := H
      try dsimp only at H
      have A27 := Aside0.mk A270
      clear A270
      as_aux_lemma =>
       have H' := Aside0.mk H
       clear H
       obtain ⟨Ao28, co28, rfl⟩ := Kd.R_slice HO528.out
       obtain ⟨Ao29, co29, rfl⟩ := Kd.R_slice HO532.out
       go_wp2_with (first | (go_at_call 8; (with_reducible refine (laws_rRow.calls kj6 _ _ t525 _ _ t529 t533 _ (Sq.r HO528) (Sq.n HO528) (Sq.r HO532) (Sq.n HO532) A27.out).mono ?_); rintro e w' ⟨rfl, ⟨nd, rfl⟩⟩; (try first | exact ⟨rfl, _, Sq.dd⟩ | exact ⟨rfl, _, Sq.de⟩)))
       repeat (go_quiet (first | (go_at_call 8; (with_reducible refine (laws_rRow.calls kj6 _ _ t525 _ _ t529 t533 _ (Sq.r HO528) (Sq.n HO528) (Sq.r HO532) (Sq.n HO532) A27.out).mono ?_); rintro e w' ⟨rfl, ⟨nd, rfl⟩⟩; (try first | exact ⟨rfl, _, Sq.dd⟩ | exact ⟨rfl, _, Sq.de⟩))); try go_wp2_with (first | (go_at_call 8; (with_reducible refine (laws_rRow.calls kj6 _ _ t525 _ _ t529 t533 _ (Sq.r HO528) (Sq.n HO528) (Sq.r HO532) (Sq.n HO532) A27.out).mono ?_); rintro e w' ⟨rfl, ⟨nd, rfl⟩⟩; (try first | exact ⟨rfl, _, Sq.dd⟩ | exact ⟨rfl, _, Sq.de⟩))))
       go_meet
       case rel => exact ⟨_, (!t533), (by first | rfl | (simp; done) | (simp [*]; done) | (simp [bne]; done)), H', ⟨by have := HJ6.out; first | omega | exact Nat.le_refl _⟩, ⟨Kd.R_mono (Sq.R HO_3) (fun _ hk => ⟨hk.1.1.1.1, ⟨hk.1.1.1.2, ⟨hk.1.1.2, hk.1.2⟩⟩⟩)⟩, ⟨Kd.R_mono (Sq.R HO_4) (fun _ hk => ⟨hk.1.1.1.1, ⟨hk.1.1.1.2, ⟨hk.1.1.2, hk.1.2⟩⟩⟩)⟩, ⟨Kd.R_mono (Sq.R HO_5) (fun _ hk => ⟨hk.1.1.1.1, ⟨hk.1.1.1.2, ⟨hk.1.1.2, hk.1.2⟩⟩⟩)⟩, ⟨Kd.R_mono (Sq.R HO524) (fun _ hk => ⟨hk.1.1.1.1.2, ⟨hk.1.1.1.2, ⟨hk.1.1.2, hk.1.2⟩⟩⟩)⟩, ⟨Kd.R_mono (Sq.R HO528) (fun _ hk => ⟨hk.1.1.1.1.2, ⟨hk.1.1.1.2, ⟨hk.1.1.2, hk.1.2⟩⟩⟩)⟩, ⟨Sq.B HB⟩⟩
     case rest =>
      clear HC21
      obtain ⟨kq, x104_20, rfl, HA, HJ20, HO_3, HO_4, HO_5, HO_9, HO_10, HB⟩ := hcut
      cases kq with
      | zero => exact absurd HA.out (by simp [laws_FnRows.j1])
      | succ kj20 =>
       have H := HA.out
       clear HA
       simp only [laws_FnRows.j1] at H
       by_cases c30 : x104_20 = true
       ·subst c30
        rw [if_pos rfl] at H
        obtain rfl := Option.some.inj H
        cases hr
       replace c30 := Bool.eq_false_iff.mpr c30
       subst c30
       rw [if_neg (show ¬ (false = true) by decide)] at H
       replace H := Option.bind_eq_some_iff.mp H
       obtain ⟨⟨t534, t535⟩, A310, H⟩ := H
       try dsimp only at H
       have A31 := Aside0.mk A310
       clear A310
       replace H := Option.bind_eq_some_iff.mp H
       obtain ⟨⟨t538, t539⟩, A320, H⟩ := H
       try dsimp only at H
       have A32 := Aside0.mk A320
       clear A320
       replace H := Option.bind_eq_some_iff.mp H
       obtain ⟨⟨t542, t543⟩, A330, H⟩ := H
       try dsimp only at H
       have A33 := Aside0.mk A330
       clear A330
       have HC34 := Aside0.mk H
       clear H
       as_aux_lemma =>
        go_upto_region 16 with (first | (go_at_call 12; (with_reducible refine (spec_DrawShiftRow.calls kj20 _ _ l0 t534 t535 _ (Sq.C ((Kd.C_below HR0.out HB.out))) HC0.out A31.out).mono ?_); rintro e w35 ⟨v536, rfl, ho0, hb⟩; have HO537 := Sq.L (Sq.N (Sq.N (Sq.N (Sq.N (Sq.N ho0 HO_3) HO_4) HO_5) HO_9) HO_10) HB; replace HO_3 := Sq.E HO_3 ho0 hb; replace HO_4 := Sq.E HO_4 ho0 hb; replace HO_5 := Sq.E HO_5 ho0 hb; replace HO_9 := Sq.E HO_9 ho0 hb; replace HO_10 := Sq.E HO_10 ho0 hb; replace HB := Sq.S HB hb; clear hb ho0; obtain ⟨Ao36, co36, rfl⟩ := Kd.R_slice HO537.out) | (go_at_call 13; (with_reducible refine (impl_ShiftRow.calls kj20 _ _ t534 t535 t538 t539 _ (Sq.r HO537) (Sq.n HO537) A32.out).mono ?_); rintro e w37 ⟨v540, rfl, ho0, hb⟩; have HO541 := Sq.L (Sq.N (Sq.N (Sq.N (Sq.N (Sq.N (Sq.N ho0 HO_3) HO_4) HO_5) HO_9) HO_10) HO537) HB; replace HO_3 := Sq.E HO_3 ho0 hb; replace HO_4 := Sq.E HO_4 ho0 hb; replace HO_5 := Sq.E HO_5 ho0 hb; replace HO_9 := Sq.E HO_9 ho0 hb; replace HO_10 := Sq.E HO_10 ho0 hb; replace HO537 := Sq.E HO537 ho0 hb; replace HB := Sq.S HB hb; clear hb ho0) | (go_at_call 14; (with_reducible refine (spec_ShiftRow.calls kj20 _ _ t534 t535 t542 t543 _ (Sq.r HO537) (Sq.n HO537) A33.out).mono ?_); rintro e w38 ⟨v544, rfl, ho0, hb⟩; have HO545 := Sq.L (Sq.N (Sq.N (Sq.N (Sq.N (Sq.N (Sq.N (Sq.N ho0 HO_3) HO_4) HO_5) HO_9) HO_10) HO537) HO541) HB; replace HO_3 := Sq.E HO_3 ho0 hb; replace HO_4 := Sq.E HO_4 ho0 hb; replace HO_5 := Sq.E HO_5 ho0 hb; replace HO_9 := Sq.E HO_9 ho0 hb; replace HO_10 := Sq.E HO_10 ho0 hb; replace HO537 := Sq.E HO537 ho0 hb; replace HO541 := Sq.E HO541 ho0 hb; replace HB := Sq.S HB hb; clear hb ho0))
        repeat (go_quiet (first | (go_at_call 12; (with_reducible refine (spec_DrawShiftRow.calls kj20 _ _ l0 t534 t535 _ (Sq.C ((Kd.C_below HR0.out HB.out))) HC0.out A31.out).mono ?_); rintro e w35 ⟨v536, rfl, ho0, hb⟩; have HO537 := Sq.L (Sq.N (Sq.N (Sq.N (Sq.N (Sq.N ho0 HO_3) HO_4) HO_5) HO_9) HO_10) HB; replace HO_3 := Sq.E HO_3 ho0 hb; replace HO_4 := Sq.E HO_4 ho0 hb; replace HO_5 := Sq.E HO_5 ho0 hb; replace HO_9 := Sq.E HO_9 ho0 hb; replace HO_10 := Sq.E HO_10 ho0 hb; replace HB := Sq.S HB hb; clear hb ho0; obtain ⟨Ao36, co36, rfl⟩ := Kd.R_slice HO537.out) | (go_at_call 13; (with_reducible refine (impl_ShiftRow.calls kj20 _ _ t534 t535 t538 t539 _ (Sq.r HO537) (Sq.n HO537) A32.out).mono ?_); rintro e w37 ⟨v540, rfl, ho0, hb⟩; have HO541 := Sq.L (Sq.N (Sq.N (Sq.N (Sq.N (Sq.N (Sq.N ho0 HO_3) HO_4) HO_5) HO_9) HO_10) HO537) HB; replace HO_3 := Sq.E HO_3 ho0 hb; replace HO_4 := Sq.E HO_4 ho0 hb; replace HO_5 := Sq.E HO_5 ho0 hb; replace HO_9 := Sq.E HO_9 ho0 hb; replace HO_10 := Sq.E HO_10 ho0 hb; replace HO537 := Sq.E HO537 ho0 hb; replace HB := Sq.S HB hb; clear hb ho0) | (go_at_call 14; (with_reducible refine (spec_ShiftRow.calls kj20 _ _ t534 t535 t542 t543 _ (Sq.r HO537) (Sq.n HO537) A33.out).mono ?_); rintro e w38 ⟨v544, rfl, ho0, hb⟩; have HO545 := Sq.L (Sq.N (Sq.N (Sq.N (Sq.N (Sq.N (Sq.N (Sq.N ho0 HO_3) HO_4) HO_5) HO_9) HO_10) HO537) HO541) HB; replace HO_3 := Sq.E HO_3 ho0 hb; replace HO_4 := Sq.E HO_4 ho0 hb; replace HO_5 := Sq.E HO_5 ho0 hb; replace HO_9 := Sq.E HO_9 ho0 hb; replace HO_10 := Sq.E HO_10 ho0 hb; replace HO537 := Sq.E HO537 ho0 hb; replace HO541 := Sq.E HO541 ho0 hb; replace HB := Sq.S HB hb; clear hb ho0)); go_upto_region 16 with (first | (go_at_call 12; (with_reducible refine (spec_DrawShiftRow.calls kj20 _ _ l0 t534 t535 _ (Sq.C ((Kd.C_below HR0.out HB.out))) HC0.out A31.out).mono ?_); rintro e w35 ⟨v536, rfl, ho0, hb⟩; have HO537 := Sq.L (Sq.N (Sq.N (Sq.N (Sq.N (Sq.N ho0 HO_3) HO_4) HO_5) HO_9) HO_10) HB; replace HO_3 := Sq.E HO_3 ho0 hb; replace HO_4 := Sq.E HO_4 ho0 hb; replace HO_5 := Sq.E HO_5 ho0 hb; replace HO_9 := Sq.E HO_9 ho0 hb; replace HO_10 := Sq.E HO_10 ho0 hb; replace HB := Sq.S HB hb; clear hb ho0; obtain ⟨Ao36, co36, rfl⟩ := Kd.R_slice HO537.out) | (go_at_call 13; (with_reducible refine (impl_ShiftRow.calls kj20 _ _ t534 t535 t538 t539 _ (Sq.r HO537) (Sq.n HO537) A32.out).mono ?_); rintro e w37 ⟨v540, rfl, ho0, hb⟩; have HO541 := Sq.L (Sq.N (Sq.N (Sq.N (Sq.N (Sq.N (Sq.N ho0 HO_3) HO_4) HO_5) HO_9) HO_10) HO537) HB; replace HO_3 := Sq.E HO_3 ho0 hb; replace HO_4 := Sq.E HO_4 ho0 hb; replace HO_5 := Sq.E HO_5 ho0 hb; replace HO_9 := Sq.E HO_9 ho0 hb; replace HO_10 := Sq.E HO_10 ho0 hb; replace HO537 := Sq.E HO537 ho0 hb; replace HB := Sq.S HB hb; clear hb ho0) | (go_at_call 14; (with_reducible refine (spec_ShiftRow.calls kj20 _ _ t534 t535 t542 t543 _ (Sq.r HO537) (Sq.n HO537) A33.out).mono ?_); rintro e w38 ⟨v544, rfl, ho0, hb⟩; have HO545 := Sq.L (Sq.N (Sq.N (Sq.N (Sq.N (Sq.N (Sq.N (Sq.N ho0 HO_3) HO_4) HO_5) HO_9) HO_10) HO537) HO541) HB; replace HO_3 := Sq.E HO_3 ho0 hb; replace HO_4 := Sq.E HO_4 ho0 hb; replace HO_5 := Sq.E HO_5 ho0 hb; replace HO_9 := Sq.E HO_9 ho0 hb; replace HO_10 := Sq.E HO_10 ho0 hb; replace HO537 := Sq.E HO537 ho0 hb; replace HO541 := Sq.E HO541 ho0 hb; replace HB := Sq.S HB hb; clear hb ho0)))
        (try simp only [Act.put, List.setIfInBounds_toArray, List.set_cons_zero, List.set_cons_succ])
        go_cut [130] (fun v130 wc => ∃ (kq : Nat) (x130_33 : Bool), v130 = .bool x130_33 ∧ Aside0 (laws_FnRows.j2 kq l0 t507 t508 t513 t516 t522 t525 t526 t534 t535 t538 t539 x130_33 = some r) ∧ Aside0 (kq ≤ kj20) ∧ Aside0 (Kd.R k42 42 wc w.heap.size (fun k_ => some k_ ≠ ((.slice Ao10 t508.length co10) : Value).ownBlock ∧ some k_ ≠ (v514 : Value).ownBlock ∧ some k_ ≠ ((.slice Ao23 t522.length co23) : Value).ownBlock ∧ some k_ ≠ (v527 : Value).ownBlock ∧ some k_ ≠ ((.slice Ao36 t534.length co36) : Value).ownBlock ∧ some k_ ≠ (v540 : Value).ownBlock) (.slice Ao9 t507.length co9) t507) ∧ Aside0 (Kd.R k42 42 wc w.heap.size (fun k_ => some k_ ≠ ((.slice Ao9 t507.length co9) : Value).ownBlock ∧ some k_ ≠ (v514 : Value).ownBlock ∧ some k_ ≠ ((.slice Ao23 t522.length co23) : Value).ownBlock ∧ some k_ ≠ (v527 : Value).ownBlock ∧ some k_ ≠ ((.slice Ao36 t534.length co36) : Value).ownBlock ∧ some k_ ≠ (v540 : Value).ownBlock) (.slice Ao10 t508.length co10) t508) ∧ Aside0 (Kd.R k42 42 wc w.heap.size (fun k_ => some k_ ≠ ((.slice Ao9 t507.length co9) : Value).ownBlock ∧ some k_ ≠ ((.slice Ao10 t508.length co10) : Value).ownBlock ∧ some k_ ≠ ((.slice Ao23 t522.length co23) : Value).ownBlock ∧ some k_ ≠ (v527 : Value).ownBlock ∧ some k_ ≠ ((.slice Ao36 t534.length co36) : Value).ownBlock ∧ some k_ ≠ (v540 : Value).ownBlock) v514 t513) ∧ Aside0 (Kd.R k42 42 wc w.heap.size (fun k_ => some k_ ≠ ((.slice Ao9 t507.length co9) : Value).ownBlock ∧ some k_ ≠ ((.slice Ao10 t508.length co10) : Value).ownBlock ∧ some k_ ≠ (v514 : Value).ownBlock ∧ some k_ ≠ (v527 : Value).ownBlock ∧ some k_ ≠ ((.slice Ao36 t534.length co36) : Value).ownBlock ∧ some k_ ≠ (v540 : Value).ownBlock) (.slice Ao23 t522.length co23) t522) ∧ Aside0 (Kd.R k42 42 wc w.heap.size (fun k_ => some k_ ≠ ((.slice Ao9 t507.length co9) : Value).ownBlock ∧ some k_ ≠ ((.slice Ao10 t508.length co10) : Value).ownBlock ∧ some k_ ≠ (v514 : Value).ownBlock ∧ some k_ ≠ ((.slice Ao23 t522.length co23) : Value).ownBlock ∧ some k_ ≠ ((.slice Ao36 t534.length co36) : Value).ownBlock ∧ some k_ ≠ (v540 : Value).ownBlock) v527 t525) ∧ Aside0 (Kd.R k42 42 wc w.heap.size (fun k_ => some k_ ≠ ((.slice Ao9 t507.length co9) : Value).ownBlock ∧ some k_ ≠ ((.slice Ao10 t508.length co10) : Value).ownBlock ∧ some k_ ≠ (v514 : Value).ownBlock ∧ some k_ ≠ ((.slice Ao23 t522.length co23) : Value).ownBlock ∧ some k_ ≠ (v527 : Value).ownBlock ∧ some k_ ≠ (v540 : Value).ownBlock) (.slice Ao36 t534.length co36) t534) ∧ Aside0 (Kd.R k42 42 wc w.heap.size (fun k_ => some k_ ≠ ((.slice Ao9 t507.length co9) : Value).ownBlock ∧ some k_ ≠ ((.slice Ao10 t508.length co10) : Value).ownBlock ∧ some k_ ≠ (v514 : Value).ownBlock ∧ some k_ ≠ ((.slice Ao23 t522.length co23) : Value).ownBlock ∧ some k_ ≠ (v527 : Value).ownBlock ∧ some k_ ≠ ((.slice Ao36 t534.length co36) : Value).ownBlock) v540 t538) ∧ Aside0 (Below w.heap.size w wc))
        case first =>
         have H := HC34.out
         clear HC34
         by_cases c39 : (t539 != t543) = true
         ·rw [if_pos c39] at H
          have c39b0 : (t539 != t543) = true := c39
          (try (have c39b1 : decide (t539 = t543) = false := by simpa using c39))
          (try (have c39b2 : (t539 == t543) = false := by simpa using c39))
          (try (have c39b3 : ¬ (t539 = t543) := by simpa using c39))
          clear c39
          (first | rw [c39b0] | (simp only [i64_w, i32_w]; rw [c39b0]) | skip)
          exact (laws_FnRows.j2_bad _ H hr).elim
         rw [if_neg c39] at H
         have c39b0 : (t539 != t543) = false := by simpa using c39
         (try (have c39b1 : decide (t539 = t543) = true := by simpa using c39))
         (try (have c39b2 : (t539 == t543) = true := by simpa using c39))
         clear c39
         (first | rw [c39b0] | (simp only [i64_w, i32_w]; rw [c39b0]) | skip)
         replace H := Option.bind_eq_some_iff.mp H
         obtain ⟨t546, A400, H⟩ := H
         try dsimp only at H
         have A40 := Aside0.mk A400
         clear A400
         as_aux_lemma =>
          have H' := Aside0.mk H
          clear H
          obtain ⟨Ao41, co41, rfl⟩ := Kd.R_slice HO541.out
          obtain ⟨Ao42, co42, rfl⟩ := Kd.R_slice HO545.out
          go_wp2_with (first | (go_at_call 8; (with_reducible refine (laws_rRow.calls kj20 _ _ t538 _ _ t542 t546 _ (Sq.r HO541) (Sq.n HO541) (Sq.r HO545) (Sq.n HO545) A40.out).mono ?_); rintro e w' ⟨rfl, ⟨nd, rfl⟩⟩; (try first | exact ⟨rfl, _, Sq.dd⟩ | exact ⟨rfl, _, Sq.de⟩)))
          repeat (go_quiet (first | (go_at_call 8; (with_reducible refine (laws_rRow.calls kj20 _ _ t538 _ _ t542 t546 _ (Sq.r HO541) (Sq.n HO541) (Sq.r HO545) (Sq.n HO545) A40.out).mono ?_); rintro e w' ⟨rfl, ⟨nd, rfl⟩⟩; (try first | exact ⟨rfl, _, Sq.dd⟩ | exact ⟨rfl, _, Sq.de⟩))); try go_wp2_with (first | (go_at_call 8; (with_reducible refine (laws_rRow.calls kj20 _ _ t538 _ _ t542 t546 _ (Sq.r HO541) (Sq.n HO541) (Sq.r HO545) (Sq.n HO545) A40.out).mono ?_); rintro e w' ⟨rfl, ⟨nd, rfl⟩⟩; (try first | exact ⟨rfl, _, Sq.dd⟩ | exact ⟨rfl, _, Sq.de⟩))))
          go_meet
          case rel => exact ⟨_, (!t546), (by first | rfl | (simp; done) | (simp [*]; done) | (simp [bne]; done)), H', ⟨by have := HJ6.out; have := HJ20.out; first | omega | exact Nat.le_refl _⟩, ⟨Kd.R_mono (Sq.R HO_3) (fun _ hk => ⟨hk.1.1.1.1, ⟨hk.1.1.1.2.1, ⟨hk.1.1.1.2.2.1, ⟨hk.1.1.1.2.2.2, ⟨hk.1.1.2, hk.1.2⟩⟩⟩⟩⟩)⟩, ⟨Kd.R_mono (Sq.R HO_4) (fun _ hk => ⟨hk.1.1.1.1, ⟨hk.1.1.1.2.1, ⟨hk.1.1.1.2.2.1, ⟨hk.1.1.1.2.2.2, ⟨hk.1.1.2, hk.1.2⟩⟩⟩⟩⟩)⟩, ⟨Kd.R_mono (Sq.R HO_5) (fun _ hk => ⟨hk.1.1.1.1, ⟨hk.1.1.1.2.1, ⟨hk.1.1.1.2.2.1, ⟨hk.1.1.1.2.2.2, ⟨hk.1.1.2, hk.1.2⟩⟩⟩⟩⟩)⟩, ⟨Kd.R_mono (Sq.R HO_9) (fun _ hk => ⟨hk.1.1.1.1, ⟨hk.1.1.1.2.1, ⟨hk.1.1.1.2.2.1, ⟨hk.1.1.1.2.2.2, ⟨hk.1.1.2, hk.1.2⟩⟩⟩⟩⟩)⟩, ⟨Kd.R_mono (Sq.R HO_10) (fun _ hk => ⟨hk.1.1.1.1, ⟨hk.1.1.1.2.1, ⟨hk.1.1.1.2.2.1, ⟨hk.1.1.1.2.2.2, ⟨hk.1.1.2, hk.1.2⟩⟩⟩⟩⟩)⟩, ⟨Kd.R_mono (Sq.R HO537) (fun _ hk => ⟨hk.1.1.1.1.1.1.2, ⟨hk.1.1.1.1.1.2, ⟨hk.1.1.1.1.2, ⟨hk.1.1.1.2, ⟨hk.1.1.2, hk.1.2⟩⟩⟩⟩⟩)⟩, ⟨Kd.R_mono (Sq.R HO541) (fun _ hk => ⟨hk.1.1.1.1.1.1.2, ⟨hk.1.1.1.1.1.2, ⟨hk.1.1.1.1.2, ⟨hk.1.1.1.2, ⟨hk.1.1.2, hk.1.2⟩⟩⟩⟩⟩)⟩, ⟨Sq.B HB⟩⟩
        case rest =>
         clear HC34
         obtain ⟨kq, x130_33, rfl, HA, HJ33, HO_3, HO_4, HO_5, HO_9, HO_10, HO_14, HO_16, HB⟩ := hcut
         cases kq with
         | zero => exact absurd HA.out (by simp [laws_FnRows.j2])
         | succ kj33 =>
          have H := HA.out
          clear HA
          simp only [laws_FnRows.j2] at H
          by_cases c43 : x130_33 = true
          ·subst c43
           rw [if_pos rfl] at H
           obtain rfl := Option.some.inj H
           cases hr
          replace c43 := Bool.eq_false_iff.mpr c43
          subst c43
          rw [if_neg (show ¬ (false = true) by decide)] at H
          replace H := Option.bind_eq_some_iff.mp H
          obtain ⟨t547, A440, H⟩ := H
          try dsimp only at H
          have A44 := Aside0.mk A440
          clear A440
          replace H := Option.bind_eq_some_iff.mp H
          obtain ⟨⟨t550, t551⟩, A450, H⟩ := H
          try dsimp only at H
          have A45 := Aside0.mk A450
          clear A450
          replace H := Option.bind_eq_some_iff.mp H
          obtain ⟨⟨t552, t553⟩, A460, H⟩ := H
          try dsimp only at H
          have A46 := Aside0.mk A460
          clear A460
          have HC47 := Aside0.mk H
          clear H
          as_aux_lemma =>
           go_upto_region 21 with (first | (go_at_call 15; (with_reducible refine (spec_DrawRowText.calls kj33 _ _ l0 t547 _ (Sq.C ((Kd.C_below HR0.out HB.out))) HC0.out A44.out).mono ?_); rintro e w48 ⟨v548, rfl, ho0, hb⟩; have HO549 := Sq.L (Sq.N (Sq.N (Sq.N (Sq.N (Sq.N (Sq.N (Sq.N ho0 HO_3) HO_4) HO_5) HO_9) HO_10) HO_14) HO_16) HB; replace HO_3 := Sq.E HO_3 ho0 hb; replace HO_4 := Sq.E HO_4 ho0 hb; replace HO_5 := Sq.E HO_5 ho0 hb; replace HO_9 := Sq.E HO_9 ho0 hb; replace HO_10 := Sq.E HO_10 ho0 hb; replace HO_14 := Sq.E HO_14 ho0 hb; replace HO_16 := Sq.E HO_16 ho0 hb; replace HB := Sq.S HB hb; clear hb ho0; obtain ⟨Ao49, co49, rfl⟩ := Kd.R_slice HO549.out) | (go_at_call 16; (with_reducible refine (impl_RowText.calls kj33 _ _ t547 t550 t551 _ ?side1 ?side2 A45.out ?tabs).mono ?_); (case tabs => exact HT.out.below (Sq.B HB)); (case side1 => exact Sq.r HO549); (case side2 => exact Sq.n HO549); rintro e w50 ⟨rfl, hb⟩; replace HO_3 := Sq.T HO_3 hb; replace HO_4 := Sq.T HO_4 hb; replace HO_5 := Sq.T HO_5 hb; replace HO_9 := Sq.T HO_9 hb; replace HO_10 := Sq.T HO_10 hb; replace HO_14 := Sq.T HO_14 hb; replace HO_16 := Sq.T HO_16 hb; replace HO549 := Sq.T HO549 hb; replace HB := Sq.S HB hb; clear hb) | (go_at_call 17; (with_reducible refine (spec_RowText.calls kj33 _ _ t547 t552 t553 _ (Sq.r HO549) (Sq.n HO549) A46.out).mono ?_); rintro e w51 ⟨rfl, hb⟩; replace HO_3 := Sq.T HO_3 hb; replace HO_4 := Sq.T HO_4 hb; replace HO_5 := Sq.T HO_5 hb; replace HO_9 := Sq.T HO_9 hb; replace HO_10 := Sq.T HO_10 hb; replace HO_14 := Sq.T HO_14 hb; replace HO_16 := Sq.T HO_16 hb; replace HO549 := Sq.T HO549 hb; replace HB := Sq.S HB hb; clear hb))
           repeat (go_quiet (first | (go_at_call 15; (with_reducible refine (spec_DrawRowText.calls kj33 _ _ l0 t547 _ (Sq.C ((Kd.C_below HR0.out HB.out))) HC0.out A44.out).mono ?_); rintro e w48 ⟨v548, rfl, ho0, hb⟩; have HO549 := Sq.L (Sq.N (Sq.N (Sq.N (Sq.N (Sq.N (Sq.N (Sq.N ho0 HO_3) HO_4) HO_5) HO_9) HO_10) HO_14) HO_16) HB; replace HO_3 := Sq.E HO_3 ho0 hb; replace HO_4 := Sq.E HO_4 ho0 hb; replace HO_5 := Sq.E HO_5 ho0 hb; replace HO_9 := Sq.E HO_9 ho0 hb; replace HO_10 := Sq.E HO_10 ho0 hb; replace HO_14 := Sq.E HO_14 ho0 hb; replace HO_16 := Sq.E HO_16 ho0 hb; replace HB := Sq.S HB hb; clear hb ho0; obtain ⟨Ao49, co49, rfl⟩ := Kd.R_slice HO549.out) | (go_at_call 16; (with_reducible refine (impl_RowText.calls kj33 _ _ t547 t550 t551 _ ?side1 ?side2 A45.out ?tabs).mono ?_); (case tabs => exact HT.out.below (Sq.B HB)); (case side1 => exact Sq.r HO549); (case side2 => exact Sq.n HO549); rintro e w50 ⟨rfl, hb⟩; replace HO_3 := Sq.T HO_3 hb; replace HO_4 := Sq.T HO_4 hb; replace HO_5 := Sq.T HO_5 hb; replace HO_9 := Sq.T HO_9 hb; replace HO_10 := Sq.T HO_10 hb; replace HO_14 := Sq.T HO_14 hb; replace HO_16 := Sq.T HO_16 hb; replace HO549 := Sq.T HO549 hb; replace HB := Sq.S HB hb; clear hb) | (go_at_call 17; (with_reducible refine (spec_RowText.calls kj33 _ _ t547 t552 t553 _ (Sq.r HO549) (Sq.n HO549) A46.out).mono ?_); rintro e w51 ⟨rfl, hb⟩; replace HO_3 := Sq.T HO_3 hb; replace HO_4 := Sq.T HO_4 hb; replace HO_5 := Sq.T HO_5 hb; replace HO_9 := Sq.T HO_9 hb; replace HO_10 := Sq.T HO_10 hb; replace HO_14 := Sq.T HO_14 hb; replace HO_16 := Sq.T HO_16 hb; replace HO549 := Sq.T HO549 hb; replace HB := Sq.S HB hb; clear hb)); go_upto_region 21 with (first | (go_at_call 15; (with_reducible refine (spec_DrawRowText.calls kj33 _ _ l0 t547 _ (Sq.C ((Kd.C_below HR0.out HB.out))) HC0.out A44.out).mono ?_); rintro e w48 ⟨v548, rfl, ho0, hb⟩; have HO549 := Sq.L (Sq.N (Sq.N (Sq.N (Sq.N (Sq.N (Sq.N (Sq.N ho0 HO_3) HO_4) HO_5) HO_9) HO_10) HO_14) HO_16) HB; replace HO_3 := Sq.E HO_3 ho0 hb; replace HO_4 := Sq.E HO_4 ho0 hb; replace HO_5 := Sq.E HO_5 ho0 hb; replace HO_9 := Sq.E HO_9 ho0 hb; replace HO_10 := Sq.E HO_10 ho0 hb; replace HO_14 := Sq.E HO_14 ho0 hb; replace HO_16 := Sq.E HO_16 ho0 hb; replace HB := Sq.S HB hb; clear hb ho0; obtain ⟨Ao49, co49, rfl⟩ := Kd.R_slice HO549.out) | (go_at_call 16; (with_reducible refine (impl_RowText.calls kj33 _ _ t547 t550 t551 _ ?side1 ?side2 A45.out ?tabs).mono ?_); (case tabs => exact HT.out.below (Sq.B HB)); (case side1 => exact Sq.r HO549); (case side2 => exact Sq.n HO549); rintro e w50 ⟨rfl, hb⟩; replace HO_3 := Sq.T HO_3 hb; replace HO_4 := Sq.T HO_4 hb; replace HO_5 := Sq.T HO_5 hb; replace HO_9 := Sq.T HO_9 hb; replace HO_10 := Sq.T HO_10 hb; replace HO_14 := Sq.T HO_14 hb; replace HO_16 := Sq.T HO_16 hb; replace HO549 := Sq.T HO549 hb; replace HB := Sq.S HB hb; clear hb) | (go_at_call 17; (with_reducible refine (spec_RowText.calls kj33 _ _ t547 t552 t553 _ (Sq.r HO549) (Sq.n HO549) A46.out).mono ?_); rintro e w51 ⟨rfl, hb⟩; replace HO_3 := Sq.T HO_3 hb; replace HO_4 := Sq.T HO_4 hb; replace HO_5 := Sq.T HO_5 hb; replace HO_9 := Sq.T HO_9 hb; replace HO_10 := Sq.T HO_10 hb; replace HO_14 := Sq.T HO_14 hb; replace HO_16 := Sq.T HO_16 hb; replace HO549 := Sq.T HO549 hb; replace HB := Sq.S HB hb; clear hb)))
           (try simp only [Act.put, List.setIfInBounds_toArray, List.set_cons_zero, List.set_cons_succ])
           go_cut [150] (fun v150 wc => ∃ (kq : Nat) (x150_46 : Bool), v150 = .bool x150_46 ∧ Aside0 (laws_FnRows.j3 kq l0 t507 t508 t513 t516 t522 t525 t526 t534 t535 t538 t539 t547 t550 t551 x150_46 = some r) ∧ Aside0 (kq ≤ kj33) ∧ Aside0 (Kd.R k42 42 wc w.heap.size (fun k_ => some k_ ≠ ((.slice Ao10 t508.length co10) : Value).ownBlock ∧ some k_ ≠ (v514 : Value).ownBlock ∧ some k_ ≠ ((.slice Ao23 t522.length co23) : Value).ownBlock ∧ some k_ ≠ (v527 : Value).ownBlock ∧ some k_ ≠ ((.slice Ao36 t534.length co36) : Value).ownBlock ∧ some k_ ≠ (v540 : Value).ownBlock ∧ some k_ ≠ ((.slice Ao49 t547.length co49) : Value).ownBlock) (.slice Ao9 t507.length co9) t507) ∧ Aside0 (Kd.R k42 42 wc w.heap.size (fun k_ => some k_ ≠ ((.slice Ao9 t507.length co9) : Value).ownBlock ∧ some k_ ≠ (v514 : Value).ownBlock ∧ some k_ ≠ ((.slice Ao23 t522.length co23) : Value).ownBlock ∧ some k_ ≠ (v527 : Value).ownBlock ∧ some k_ ≠ ((.slice Ao36 t534.length co36) : Value).ownBlock ∧ some k_ ≠ (v540 : Value).ownBlock ∧ some k_ ≠ ((.slice Ao49 t547.length co49) : Value).ownBlock) (.slice Ao10 t508.length co10) t508) ∧ Aside0 (Kd.R k42 42 wc w.heap.size (fun k_ => some k_ ≠ ((.slice Ao9 t507.length co9) : Value).ownBlock ∧ some k_ ≠ ((.slice Ao10 t508.length co10) : Value).ownBlock ∧ some k_ ≠ ((.slice Ao23 t522.length co23) : Value).ownBlock ∧ some k_ ≠ (v527 : Value).ownBlock ∧ some k_ ≠ ((.slice Ao36 t534.length co36) : Value).ownBlock ∧ some k_ ≠ (v540 : Value).ownBlock ∧ some k_ ≠ ((.slice Ao49 t547.length co49) : Value).ownBlock) v514 t513) ∧ Aside0 (Kd.R k42 42 wc w.heap.size (fun k_ => some k_ ≠ ((.slice Ao9 t507.length co9) : Value).ownBlock ∧ some k_ ≠ ((.slice Ao10 t508.length co10) : Value).ownBlock ∧ some k_ ≠ (v514 : Value).ownBlock ∧ some k_ ≠ (v527 : Value).ownBlock ∧ some k_ ≠ ((.slice Ao36 t534.length co36) : Value).ownBlock ∧ some k_ ≠ (v540 : Value).ownBlock ∧ some k_ ≠ ((.slice Ao49 t547.length co49) : Value).ownBlock) (.slice Ao23 t522.length co23) t522) ∧ Aside0 (Kd.R k42 42 wc w.heap.size (fun k_ => some k_ ≠ ((.slice Ao9 t507.length co9) : Value).ownBlock ∧ some k_ ≠ ((.slice Ao10 t508.length co10) : Value).ownBlock ∧ some k_ ≠ (v514 : Value).ownBlock ∧ some k_ ≠ ((.slice Ao23 t522.length co23) : Value).ownBlock ∧ some k_ ≠ ((.slice Ao36 t534.length co36) : Value).ownBlock ∧ some k_ ≠ (v540 : Value).ownBlock ∧ some k_ ≠ ((.slice Ao49 t547.length co49) : Value).ownBlock) v527 t525) ∧ Aside0 (Kd.R k42 42 wc w.heap.size (fun k_ => some k_ ≠ ((.slice Ao9 t507.length co9) : Value).ownBlock ∧ some k_ ≠ ((.slice Ao10 t508.length co10) : Value).ownBlock ∧ some k_ ≠ (v514 : Value).ownBlock ∧ some k_ ≠ ((.slice Ao23 t522.length co23) : Value).ownBlock ∧ some k_ ≠ (v527 : Value).ownBlock ∧ some k_ ≠ (v540 : Value).ownBlock ∧ some k_ ≠ ((.slice Ao49 t547.length co49) : Value).ownBlock) (.slice Ao36 t534.length co36) t534) ∧ Aside0 (Kd.R k42 42 wc w.heap.size (fun k_ => some k_ ≠ ((.slice Ao9 t507.length co9) : Value).ownBlock ∧ some k_ ≠ ((.slice Ao10 t508.length co10) : Value).ownBlock ∧ some k_ ≠ (v514 : Value).ownBlock ∧ some k_ ≠ ((.slice Ao23 t522.length co23) : Value).ownBlock ∧ some k_ ≠ (v527 : Value).ownBlock ∧ some k_ ≠ ((.slice Ao36 t534.length co36) : Value).ownBlock ∧ some k_ ≠ ((.slice Ao49 t547.length co49) : Value).ownBlock) v540 t538) ∧ Aside0 (Kd.R k42 42 wc w.heap.size (fun k_ => some k_ ≠ ((.slice Ao9 t507.length co9) : Value).ownBlock ∧ some k_ ≠ ((.slice Ao10 t508.length co10) : Value).ownBlock ∧ some k_ ≠ (v514 : Value).ownBlock ∧ some k_ ≠ ((.slice Ao23 t522.length co23) : Value).ownBlock ∧ some k_ ≠ (v527 : Value).ownBlock ∧ some k_ ≠ ((.slice Ao36 t534.length co36) : Value).ownBlock ∧ some k_ ≠ (v540 : Value).ownBlock) (.slice Ao49 t547.length co49) t547) ∧ Aside0 (Below w.heap.size w wc))
           case first =>
            have H := HC47.out
            clear HC47
            by_cases c52 : t550.toList = t552.toList
            rotate_left
            ·rw [if_neg c52] at H
             have c52b0 : (t550.toList == t552.toList) = false := beq_eq_false_iff_ne.mpr c52
             have c52b1 : (t550.toList != t552.toList) = true := bne_iff_ne.mpr c52
             (first | rw [c52b0] | (simp only [i64_w, i32_w]; rw [c52b0]) | skip)
             exact (laws_FnRows.j3_bad _ H hr).elim
            rw [if_pos c52] at H
            have c52b0 : (t550.toList == t552.toList) = true := beq_iff_eq.mpr c52
            have c52b1 : (t550.toList != t552.toList) = false := bne_eq_false_iff_eq.mpr c52
            clear c52
            (first | rw [c52b0] | (simp only [i64_w, i32_w]; rw [c52b0]) | skip)
            as_aux_lemma =>
             have H' := Aside0.mk H
             clear H
             go_wp2
             repeat (go_quiet (fail); try go_wp2)
             go_meet
             case rel => exact ⟨_, ((t551 != t553)), (by first | rfl | (simp; done) | (simp [*]; done) | (simp [bne]; done)), H', ⟨by have := HJ6.out; have := HJ20.out; have := HJ33.out; first | omega | exact Nat.le_refl _⟩, ⟨Kd.R_mono (Sq.R HO_3) (fun _ hk => ⟨hk.1.1, ⟨hk.1.2.1, ⟨hk.1.2.2.1, ⟨hk.1.2.2.2.1, ⟨hk.1.2.2.2.2.1, ⟨hk.1.2.2.2.2.2, hk.2⟩⟩⟩⟩⟩⟩)⟩, ⟨Kd.R_mono (Sq.R HO_4) (fun _ hk => ⟨hk.1.1, ⟨hk.1.2.1, ⟨hk.1.2.2.1, ⟨hk.1.2.2.2.1, ⟨hk.1.2.2.2.2.1, ⟨hk.1.2.2.2.2.2, hk.2⟩⟩⟩⟩⟩⟩)⟩, ⟨Kd.R_mono (Sq.R HO_5) (fun _ hk => ⟨hk.1.1, ⟨hk.1.2.1, ⟨hk.1.2.2.1, ⟨hk.1.2.2.2.1, ⟨hk.1.2.2.2.2.1, ⟨hk.1.2.2.2.2.2, hk.2⟩⟩⟩⟩⟩⟩)⟩, ⟨Kd.R_mono (Sq.R HO_9) (fun _ hk => ⟨hk.1.1, ⟨hk.1.2.1, ⟨hk.1.2.2.1, ⟨hk.1.2.2.2.1, ⟨hk.1.2.2.2.2.1, ⟨hk.1.2.2.2.2.2, hk.2⟩⟩⟩⟩⟩⟩)⟩, ⟨Kd.R_mono (Sq.R HO_10) (fun _ hk => ⟨hk.1.1, ⟨hk.1.2.1, ⟨hk.1.2.2.1, ⟨hk.1.2.2.2.1, ⟨hk.1.2.2.2.2.1, ⟨hk.1.2.2.2.2.2, hk.2⟩⟩⟩⟩⟩⟩)⟩, ⟨Kd.R_mono (Sq.R HO_14) (fun _ hk => ⟨hk.1.1, ⟨hk.1.2.1, ⟨hk.1.2.2.1, ⟨hk.1.2.2.2.1, ⟨hk.1.2.2.2.2.1, ⟨hk.1.2.2.2.2.2, hk.2⟩⟩⟩⟩⟩⟩)⟩, ⟨Kd.R_mono (Sq.R HO_16) (fun _ hk => ⟨hk.1.1, ⟨hk.1.2.1, ⟨hk.1.2.2.1, ⟨hk.1.2.2.2.1, ⟨hk.1.2.2.2.2.1, ⟨hk.1.2.2.2.2.2, hk.2⟩⟩⟩⟩⟩⟩)⟩, ⟨Kd.R_mono (Sq.R HO549) (fun _ hk => ⟨hk.1.1.1.1.1.1.2, ⟨hk.1.1.1.1.1.2, ⟨hk.1.1.1.1.2, ⟨hk.1.1.1.2, ⟨hk.1.1.2, ⟨hk.1.2, hk.2⟩⟩⟩⟩⟩⟩)⟩, ⟨Sq.B HB⟩⟩
           case rest =>
            clear HC47
            obtain ⟨kq, x150_46, rfl, HA, HJ46, HO_3, HO_4, HO_5, HO_9, HO_10, HO_14, HO_16, HO_20, HB⟩ := hcut
            cases kq with
            | zero => exact absurd HA.out (by simp [laws_FnRows.j3])
            | succ kj46 =>
             have H := HA.out
             clear HA
             simp only [laws_FnRows.j3] at H
             by_cases c53 : x150_46 = true
             ·subst c53
              rw [if_pos rfl] at H
              obtain rfl := Option.some.inj H
              cases hr
             replace c53 := Bool.eq_false_iff.mpr c53
             subst c53
             rw [if_neg (show ¬ (false = true) by decide)] at H
             have HC54 := Aside0.mk H
             clear H
             as_aux_lemma =>
              go_upto_if 151 with (fail)
              repeat (go_quiet (fail); go_upto_if 151 with (fail))
              go_cut [] (fun wc => ∃ (kq : Nat), Aside0 (laws_FnRows.j4 kq l0 t507 t508 t513 t516 t522 t525 t526 t534 t535 t538 t539 = some r) ∧ Aside0 (kq ≤ kj46) ∧ Aside0 (Kd.R k42 42 wc w.heap.size (fun k_ => some k_ ≠ ((.slice Ao10 t508.length co10) : Value).ownBlock ∧ some k_ ≠ (v514 : Value).ownBlock ∧ some k_ ≠ ((.slice Ao23 t522.length co23) : Value).ownBlock ∧ some k_ ≠ (v527 : Value).ownBlock ∧ some k_ ≠ ((.slice Ao36 t534.length co36) : Value).ownBlock ∧ some k_ ≠ (v540 : Value).ownBlock) (.slice Ao9 t507.length co9) t507) ∧ Aside0 (Kd.R k42 42 wc w.heap.size (fun k_ => some k_ ≠ ((.slice Ao9 t507.length co9) : Value).ownBlock ∧ some k_ ≠ (v514 : Value).ownBlock ∧ some k_ ≠ ((.slice Ao23 t522.length co23) : Value).ownBlock ∧ some k_ ≠ (v527 : Value).ownBlock ∧ some k_ ≠ ((.slice Ao36 t534.length co36) : Value).ownBlock ∧ some k_ ≠ (v540 : Value).ownBlock) (.slice Ao10 t508.length co10) t508) ∧ Aside0 (Kd.R k42 42 wc w.heap.size (fun k_ => some k_ ≠ ((.slice Ao9 t507.length co9) : Value).ownBlock ∧ some k_ ≠ ((.slice Ao10 t508.length co10) : Value).ownBlock ∧ some k_ ≠ ((.slice Ao23 t522.length co23) : Value).ownBlock ∧ some k_ ≠ (v527 : Value).ownBlock ∧ some k_ ≠ ((.slice Ao36 t534.length co36) : Value).ownBlock ∧ some k_ ≠ (v540 : Value).ownBlock) v514 t513) ∧ Aside0 (Kd.R k42 42 wc w.heap.size (fun k_ => some k_ ≠ ((.slice Ao9 t507.length co9) : Value).ownBlock ∧ some k_ ≠ ((.slice Ao10 t508.length co10) : Value).ownBlock ∧ some k_ ≠ (v514 : Value).ownBlock ∧ some k_ ≠ (v527 : Value).ownBlock ∧ some k_ ≠ ((.slice Ao36 t534.length co36) : Value).ownBlock ∧ some k_ ≠ (v540 : Value).ownBlock) (.slice Ao23 t522.length co23) t522) ∧ Aside0 (Kd.R k42 42 wc w.heap.size (fun k_ => some k_ ≠ ((.slice Ao9 t507.length co9) : Value).ownBlock ∧ some k_ ≠ ((.slice Ao10 t508.length co10) : Value).ownBlock ∧ some k_ ≠ (v514 : Value).ownBlock ∧ some k_ ≠ ((.slice Ao23 t522.length co23) : Value).ownBlock ∧ some k_ ≠ ((.slice Ao36 t534.length co36) : Value).ownBlock ∧ some k_ ≠ (v540 : Value).ownBlock) v527 t525) ∧ Aside0 (Kd.R k42 42 wc w.heap.size (fun k_ => some k_ ≠ ((.slice Ao9 t507.length co9) : Value).ownBlock ∧ some k_ ≠ ((.slice Ao10 t508.length co10) : Value).ownBlock ∧ some k_ ≠ (v514 : Value).ownBlock ∧ some k_ ≠ ((.slice Ao23 t522.length co23) : Value).ownBlock ∧ some k_ ≠ (v527 : Value).ownBlock ∧ some k_ ≠ (v540 : Value).ownBlock) (.slice Ao36 t534.length co36) t534) ∧ Aside0 (Kd.R k42 42 wc w.heap.size (fun k_ => some k_ ≠ ((.slice Ao9 t507.length co9) : Value).ownBlock ∧ some k_ ≠ ((.slice Ao10 t508.length co10) : Value).ownBlock ∧ some k_ ≠ (v514 : Value).ownBlock ∧ some k_ ≠ ((.slice Ao23 t522.length co23) : Value).ownBlock ∧ some k_ ≠ (v527 : Value).ownBlock ∧ some k_ ≠ ((.slice Ao36 t534.length co36) : Value).ownBlock) v540 t538) ∧ Aside0 (Below w.heap.size w wc))
              case first =>
               have H := HC54.out
               clear HC54
               by_cases c55 : t551 = true
               rotate_left
               ·replace c55 := Bool.eq_false_iff.mpr c55
                subst c55
                rw [if_neg (show ¬ (false = true) by decide)] at H
                as_aux_lemma =>
                 have H' := Aside0.mk H
                 clear H
                 go_wp2
                 repeat (go_quiet (fail); try go_wp2)
                 go_meet
                 case rel => exact ⟨_, H', ⟨by have := HJ6.out; have := HJ20.out; have := HJ33.out; have := HJ46.out; first | omega | exact Nat.le_refl _⟩, ⟨Kd.R_mono (Sq.R HO_3) (fun _ hk => ⟨hk.1, ⟨hk.2.1, ⟨hk.2.2.1, ⟨hk.2.2.2.1, ⟨hk.2.2.2.2.1, hk.2.2.2.2.2.1⟩⟩⟩⟩⟩)⟩, ⟨Kd.R_mono (Sq.R HO_4) (fun _ hk => ⟨hk.1, ⟨hk.2.1, ⟨hk.2.2.1, ⟨hk.2.2.2.1, ⟨hk.2.2.2.2.1, hk.2.2.2.2.2.1⟩⟩⟩⟩⟩)⟩, ⟨Kd.R_mono (Sq.R HO_5) (fun _ hk => ⟨hk.1, ⟨hk.2.1, ⟨hk.2.2.1, ⟨hk.2.2.2.1, ⟨hk.2.2.2.2.1, hk.2.2.2.2.2.1⟩⟩⟩⟩⟩)⟩, ⟨Kd.R_mono (Sq.R HO_9) (fun _ hk => ⟨hk.1, ⟨hk.2.1, ⟨hk.2.2.1, ⟨hk.2.2.2.1, ⟨hk.2.2.2.2.1, hk.2.2.2.2.2.1⟩⟩⟩⟩⟩)⟩, ⟨Kd.R_mono (Sq.R HO_10) (fun _ hk => ⟨hk.1, ⟨hk.2.1, ⟨hk.2.2.1, ⟨hk.2.2.2.1, ⟨hk.2.2.2.2.1, hk.2.2.2.2.2.1⟩⟩⟩⟩⟩)⟩, ⟨Kd.R_mono (Sq.R HO_14) (fun _ hk => ⟨hk.1, ⟨hk.2.1, ⟨hk.2.2.1, ⟨hk.2.2.2.1, ⟨hk.2.2.2.2.1, hk.2.2.2.2.2.1⟩⟩⟩⟩⟩)⟩, ⟨Kd.R_mono (Sq.R HO_16) (fun _ hk => ⟨hk.1, ⟨hk.2.1, ⟨hk.2.2.1, ⟨hk.2.2.2.1, ⟨hk.2.2.2.2.1, hk.2.2.2.2.2.1⟩⟩⟩⟩⟩)⟩, ⟨Sq.B HB⟩⟩
               subst c55
               rw [if_pos rfl] at H
               replace H := Option.bind_eq_some_iff.mp H
               obtain ⟨⟨t554, t555⟩, A560, H⟩ := H
               try dsimp only at H
               have A56 := Aside0.mk A560
               clear A560
               by_cases c57 : t555 = true
               rotate_left
               ·replace c57 := Bool.eq_false_iff.mpr c57
                subst c57
                rw [if_neg (show ¬ (false = true) by decide)] at H
                obtain rfl := Option.some.inj H
                cases hr
               subst c57
               rw [if_pos rfl] at H
               replace H := Option.bind_eq_some_iff.mp H
               obtain ⟨t558, A580, H⟩ := H
               try dsimp only at H
               have A58 := Aside0.mk A580
               clear A580
               by_cases c59 : t558 = true
               rotate_left
               ·replace c59 := Bool.eq_false_iff.mpr c59
                subst c59
                rw [if_neg (show ¬ (false = true) by decide)] at H
                obtain rfl := Option.some.inj H
                cases hr
               subst c59
               rw [if_pos rfl] at H
               as_aux_lemma =>
                have H' := Aside0.mk H
                clear H
                go_wp2_with (first | (go_at_call 18; (with_reducible refine (impl_ParseRow.calls kj46 t550 t554 true _ A56.out ?tabs).mono ?_); (case tabs => exact HT.out.below (Sq.B HB)); rintro e w60 ⟨v556, rfl, ho0, hb⟩; have HO557 := Sq.L (Sq.N (Sq.N (Sq.N (Sq.N (Sq.N (Sq.N (Sq.N (Sq.N ho0 HO_3) HO_4) HO_5) HO_9) HO_10) HO_14) HO_16) HO_20) HB; replace HO_3 := Sq.E HO_3 ho0 hb; replace HO_4 := Sq.E HO_4 ho0 hb; replace HO_5 := Sq.E HO_5 ho0 hb; replace HO_9 := Sq.E HO_9 ho0 hb; replace HO_10 := Sq.E HO_10 ho0 hb; replace HO_14 := Sq.E HO_14 ho0 hb; replace HO_16 := Sq.E HO_16 ho0 hb; replace HO_20 := Sq.E HO_20 ho0 hb; replace HB := Sq.S HB hb; clear hb ho0; obtain ⟨Ao61, co61, rfl⟩ := Kd.R_slice HO557.out) | (go_at_call 8; (with_reducible refine (laws_rRow.calls kj46 _ _ t554 _ _ t547 true _ (Sq.r HO557) (Sq.n HO557) (Sq.r HO_20) (Sq.n HO_20) A58.out).mono ?_); rintro e w' ⟨rfl, ⟨nd, rfl⟩⟩; (try first | exact ⟨rfl, _, Sq.dd⟩ | exact ⟨rfl, _, Sq.de⟩)))
                repeat (go_quiet (first | (go_at_call 18; (with_reducible refine (impl_ParseRow.calls kj46 t550 t554 true _ A56.out ?tabs).mono ?_); (case tabs => exact HT.out.below (Sq.B HB)); rintro e w60 ⟨v556, rfl, ho0, hb⟩; have HO557 := Sq.L (Sq.N (Sq.N (Sq.N (Sq.N (Sq.N (Sq.N (Sq.N (Sq.N ho0 HO_3) HO_4) HO_5) HO_9) HO_10) HO_14) HO_16) HO_20) HB; replace HO_3 := Sq.E HO_3 ho0 hb; replace HO_4 := Sq.E HO_4 ho0 hb; replace HO_5 := Sq.E HO_5 ho0 hb; replace HO_9 := Sq.E HO_9 ho0 hb; replace HO_10 := Sq.E HO_10 ho0 hb; replace HO_14 := Sq.E HO_14 ho0 hb; replace HO_16 := Sq.E HO_16 ho0 hb; replace HO_20 := Sq.E HO_20 ho0 hb; replace HB := Sq.S HB hb; clear hb ho0; obtain ⟨Ao61, co61, rfl⟩ := Kd.R_slice HO557.out) | (go_at_call 8; (with_reducible refine (laws_rRow.calls kj46 _ _ t554 _ _ t547 true _ (Sq.r HO557) (Sq.n HO557) (Sq.r HO_20) (Sq.n HO_20) A58.out).mono ?_); rintro e w' ⟨rfl, ⟨nd, rfl⟩⟩; (try first | exact ⟨rfl, _, Sq.dd⟩ | exact ⟨rfl, _, Sq.de⟩))); try go_wp2_with (first | (go_at_call 18; (with_reducible refine (impl_ParseRow.calls kj46 t550 t554 true _ A56.out ?tabs).mono ?_); (case tabs => exact HT.out.below (Sq.B HB)); rintro e w60 ⟨v556, rfl, ho0, hb⟩; have HO557 := Sq.L (Sq.N (Sq.N (Sq.N (Sq.N (Sq.N (Sq.N (Sq.N (Sq.N ho0 HO_3) HO_4) HO_5) HO_9) HO_10) HO_14) HO_16) HO_20) HB; replace HO_3 := Sq.E HO_3 ho0 hb; replace HO_4 := Sq.E HO_4 ho0 hb; replace HO_5 := Sq.E HO_5 ho0 hb; replace HO_9 := Sq.E HO_9 ho0 hb; replace HO_10 := Sq.E HO_10 ho0 hb; replace HO_14 := Sq.E HO_14 ho0 hb; replace HO_16 := Sq.E HO_16 ho0 hb; replace HO_20 := Sq.E HO_20 ho0 hb; replace HB := Sq.S HB hb; clear hb ho0; obtain ⟨Ao61, co61, rfl⟩ := Kd.R_slice HO557.out) | (go_at_call 8; (with_reducible refine (laws_rRow.calls kj46 _ _ t554 _ _ t547 true _ (Sq.r HO557) (Sq.n HO557) (Sq.r HO_20) (Sq.n HO_20) A58.out).mono ?_); rintro e w' ⟨rfl, ⟨nd, rfl⟩⟩; (try first | exact ⟨rfl, _, Sq.dd⟩ | exact ⟨rfl, _, Sq.de⟩))))
                go_meet
                case rel => exact ⟨_, H', ⟨by have := HJ6.out; have := HJ20.out; have := HJ33.out; have := HJ46.out; first | omega | exact Nat.le_refl _⟩, ⟨Kd.R_mono (Sq.R HO_3) (fun _ hk => ⟨hk.1.1, ⟨hk.1.2.1, ⟨hk.1.2.2.1, ⟨hk.1.2.2.2.1, ⟨hk.1.2.2.2.2.1, hk.1.2.2.2.2.2.1⟩⟩⟩⟩⟩)⟩, ⟨Kd.R_mono (Sq.R HO_4) (fun _ hk => ⟨hk.1.1, ⟨hk.1.2.1, ⟨hk.1.2.2.1, ⟨hk.1.2.2.2.1, ⟨hk.1.2.2.2.2.1, hk.1.2.2.2.2.2.1⟩⟩⟩⟩⟩)⟩, ⟨Kd.R_mono (Sq.R HO_5) (fun _ hk => ⟨hk.1.1, ⟨hk.1.2.1, ⟨hk.1.2.2.1, ⟨hk.1.2.2.2.1, ⟨hk.1.2.2.2.2.1, hk.1.2.2.2.2.2.1⟩⟩⟩⟩⟩)⟩, ⟨Kd.R_mono (Sq.R HO_9) (fun _ hk => ⟨hk.1.1, ⟨hk.1.2.1, ⟨hk.1.2.2.1, ⟨hk.1.2.2.2.1, ⟨hk.1.2.2.2.2.1, hk.1.2.2.2.2.2.1⟩⟩⟩⟩⟩)⟩, ⟨Kd.R_mono (Sq.R HO_10) (fun _ hk => ⟨hk.1.1, ⟨hk.1.2.1, ⟨hk.1.2.2.1, ⟨hk.1.2.2.2.1, ⟨hk.1.2.2.2.2.1, hk.1.2.2.2.2.2.1⟩⟩⟩⟩⟩)⟩, ⟨Kd.R_mono (Sq.R HO_14) (fun _ hk => ⟨hk.1.1, ⟨hk.1.2.1, ⟨hk.1.2.2.1, ⟨hk.1.2.2.2.1, ⟨hk.1.2.2.2.2.1, hk.1.2.2.2.2.2.1⟩⟩⟩⟩⟩)⟩, ⟨Kd.R_mono (Sq.R HO_16) (fun _ hk => ⟨hk.1.1, ⟨hk.1.2.1, ⟨hk.1.2.2.1, ⟨hk.1.2.2.2.1, ⟨hk.1.2.2.2.2.1, hk.1.2.2.2.2.2.1⟩⟩⟩⟩⟩)⟩, ⟨Sq.B HB⟩⟩
              case rest =>
               clear HC54
               obtain ⟨kq, HA, HJ53, HO_3, HO_4, HO_5, HO_9, HO_10, HO_14, HO_16, HB⟩ := hcut
               cases kq with
               | zero => exact absurd HA.out (by simp [laws_FnRows.j4])
               | succ kj53 =>
                have H := HA.out
                clear HA
                simp only [laws_FnRows.j4] at H
                replace H := Option.bind_eq_some_iff.mp H
                obtain ⟨t559, A620, H⟩ := H
                try dsimp only at H
                have A62 := Aside0.mk A620
                clear A620
                replace H := Option.bind_eq_some_iff.mp H
                obtain ⟨⟨t560, t561⟩, A630, H⟩ := H
                try dsimp only at H
                have A63 := Aside0.mk A630
                clear A630
                replace H := Option.bind_eq_some_iff.mp H
                obtain ⟨⟨t564, t565⟩, A640, H⟩ := H
                try dsimp only at H
                have A64 := Aside0.mk A640
                clear A640
                have HC65 := Aside0.mk H
                clear H
                as_aux_lemma =>
                 go_upto_region 30 with (first | (go_at_call 19; (with_reducible refine (spec_DrawParseRow.calls kj53 _ _ l0 t559 _ (Sq.C ((Kd.C_below HR0.out HB.out))) HC0.out A62.out).mono ?_); rintro e w66 ⟨rfl, hb⟩; replace HO_3 := Sq.T HO_3 hb; replace HO_4 := Sq.T HO_4 hb; replace HO_5 := Sq.T HO_5 hb; replace HO_9 := Sq.T HO_9 hb; replace HO_10 := Sq.T HO_10 hb; replace HO_14 := Sq.T HO_14 hb; replace HO_16 := Sq.T HO_16 hb; replace HB := Sq.S HB hb; clear hb) | (go_at_call 18; (with_reducible refine (impl_ParseRow.calls kj53 t559 t560 t561 _ A63.out ?tabs).mono ?_); (case tabs => exact HT.out.below (Sq.B HB)); rintro e w67 ⟨v562, rfl, ho0, hb⟩; have HO563 := Sq.L (Sq.N (Sq.N (Sq.N (Sq.N (Sq.N (Sq.N (Sq.N ho0 HO_3) HO_4) HO_5) HO_9) HO_10) HO_14) HO_16) HB; replace HO_3 := Sq.E HO_3 ho0 hb; replace HO_4 := Sq.E HO_4 ho0 hb; replace HO_5 := Sq.E HO_5 ho0 hb; replace HO_9 := Sq.E HO_9 ho0 hb; replace HO_10 := Sq.E HO_10 ho0 hb; replace HO_14 := Sq.E HO_14 ho0 hb; replace HO_16 := Sq.E HO_16 ho0 hb; replace HB := Sq.S HB hb; clear hb ho0) | (go_at_call 20; (with_reducible refine (spec_ParseRow.calls kj53 t559 t564 t565 _ A64.out).mono ?_); rintro e w68 ⟨v566, rfl, ho0, hb⟩; have HO567 := Sq.L (Sq.N (Sq.N (Sq.N (Sq.N (Sq.N (Sq.N (Sq.N (Sq.N ho0 HO_3) HO_4) HO_5) HO_9) HO_10) HO_14) HO_16) HO563) HB; replace HO_3 := Sq.E HO_3 ho0 hb; replace HO_4 := Sq.E HO_4 ho0 hb; replace HO_5 := Sq.E HO_5 ho0 hb; replace HO_9 := Sq.E HO_9 ho0 hb; replace HO_10 := Sq.E HO_10 ho0 hb; replace HO_14 := Sq.E HO_14 ho0 hb; replace HO_16 := Sq.E HO_16 ho0 hb; replace HO563 := Sq.E HO563 ho0 hb; replace HB := Sq.S HB hb; clear hb ho0))
                 repeat (go_quiet (first | (go_at_call 19; (with_reducible refine (spec_DrawParseRow.calls kj53 _ _ l0 t559 _ (Sq.C ((Kd.C_below HR0.out HB.out))) HC0.out A62.out).mono ?_); rintro e w66 ⟨rfl, hb⟩; replace HO_3 := Sq.T HO_3 hb; replace HO_4 := Sq.T HO_4 hb; replace HO_5 := Sq.T HO_5 hb; replace HO_9 := Sq.T HO_9 hb; replace HO_10 := Sq.T HO_10 hb; replace HO_14 := Sq.T HO_14 hb; replace HO_16 := Sq.T HO_16 hb; replace HB := Sq.S HB hb; clear hb) | (go_at_call 18; (with_reducible refine (impl_ParseRow.calls kj53 t559 t560 t561 _ A63.out ?tabs).mono ?_); (case tabs => exact HT.out.below (Sq.B HB)); rintro e w67 ⟨v562, rfl, ho0, hb⟩; have HO563 := Sq.L (Sq.N (Sq.N (Sq.N (Sq.N (Sq.N (Sq.N (Sq.N ho0 HO_3) HO_4) HO_5) HO_9) HO_10) HO_14) HO_16) HB; replace HO_3 := Sq.E HO_3 ho0 hb; replace HO_4 := Sq.E HO_4 ho0 hb; replace HO_5 := Sq.E HO_5 ho0 hb; replace HO_9 := Sq.E HO_9 ho0 hb; replace HO_10 := Sq.E HO_10 ho0 hb; replace HO_14 := Sq.E HO_14 ho0 hb; replace HO_16 := Sq.E HO_16 ho0 hb; replace HB := Sq.S HB hb; clear hb ho0) | (go_at_call 20; (with_reducible refine (spec_ParseRow.calls kj53 t559 t564 t565 _ A64.out).mono ?_); rintro e w68 ⟨v566, rfl, ho0, hb⟩; have HO567 := Sq.L (Sq.N (Sq.N (Sq.N (Sq.N (Sq.N (Sq.N (Sq.N (Sq.N ho0 HO_3) HO_4) HO_5) HO_9) HO_10) HO_14) HO_16) HO563) HB; replace HO_3 := Sq.E HO_3 ho0 hb; replace HO_4 := Sq.E HO_4 ho0 hb; replace HO_5 := Sq.E HO_5 ho0 hb; replace HO_9 := Sq.E HO_9 ho0 hb; replace HO_10 := Sq.E HO_10 ho0 hb; replace HO_14 := Sq.E HO_14 ho0 hb; replace HO_16 := Sq.E HO_16 ho0 hb; replace HO563 := Sq.E HO563 ho0 hb; replace HB := Sq.S HB hb; clear hb ho0)); go_upto_region 30 with (first | (go_at_call 19; (with_reducible refine (spec_DrawParseRow.calls kj53 _ _ l0 t559 _ (Sq.C ((Kd.C_below HR0.out HB.out))) HC0.out A62.out).mono ?_); rintro e w66 ⟨rfl, hb⟩; replace HO_3 := Sq.T HO_3 hb; replace HO_4 := Sq.T HO_4 hb; replace HO_5 := Sq.T HO_5 hb; replace HO_9 := Sq.T HO_9 hb; replace HO_10 := Sq.T HO_10 hb; replace HO_14 := Sq.T HO_14 hb; replace HO_16 := Sq.T HO_16 hb; replace HB := Sq.S HB hb; clear hb) | (go_at_call 18; (with_reducible refine (impl_ParseRow.calls kj53 t559 t560 t561 _ A63.out ?tabs).mono ?_); (case tabs => exact HT.out.below (Sq.B HB)); rintro e w67 ⟨v562, rfl, ho0, hb⟩; have HO563 := Sq.L (Sq.N (Sq.N (Sq.N (Sq.N (Sq.N (Sq.N (Sq.N ho0 HO_3) HO_4) HO_5) HO_9) HO_10) HO_14) HO_16) HB; replace HO_3 := Sq.E HO_3 ho0 hb; replace HO_4 := Sq.E HO_4 ho0 hb; replace HO_5 := Sq.E HO_5 ho0 hb; replace HO_9 := Sq.E HO_9 ho0 hb; replace HO_10 := Sq.E HO_10 ho0 hb; replace HO_14 := Sq.E HO_14 ho0 hb; replace HO_16 := Sq.E HO_16 ho0 hb; replace HB := Sq.S HB hb; clear hb ho0) | (go_at_call 20; (with_reducible refine (spec_ParseRow.calls kj53 t559 t564 t565 _ A64.out).mono ?_); rintro e w68 ⟨v566, rfl, ho0, hb⟩; have HO567 := Sq.L (Sq.N (Sq.N (Sq.N (Sq.N (Sq.N (Sq.N (Sq.N (Sq.N ho0 HO_3) HO_4) HO_5) HO_9) HO_10) HO_14) HO_16) HO563) HB; replace HO_3 := Sq.E HO_3 ho0 hb; replace HO_4 := Sq.E HO_4 ho0 hb; replace HO_5 := Sq.E HO_5 ho0 hb; replace HO_9 := Sq.E HO_9 ho0 hb; replace HO_10 := Sq.E HO_10 ho0 hb; replace HO_14 := Sq.E HO_14 ho0 hb; replace HO_16 := Sq.E HO_16 ho0 hb; replace HO563 := Sq.E HO563 ho0 hb; replace HB := Sq.S HB hb; clear hb ho0)))
                 (try simp only [Act.put, List.setIfInBounds_toArray, List.set_cons_zero, List.set_cons_succ])
                 go_cut [185] (fun v185 wc => ∃ (kq : Nat) (x185_64 : Bool), v185 = .bool x185_64 ∧ Aside0 (laws_FnRows.j5 kq t507 t508 t513 t516 t522 t525 t526 t534 t535 t538 t539 x185_64 = some r) ∧ Aside0 (kq ≤ kj53) ∧ Aside0 (Kd.R k42 42 wc w.heap.size (fun k_ => some k_ ≠ ((.slice Ao10 t508.length co10) : Value).ownBlock ∧ some k_ ≠ (v514 : Value).ownBlock ∧ some k_ ≠ ((.slice Ao23 t522.length co23) : Value).ownBlock ∧ some k_ ≠ (v527 : Value).ownBlock ∧ some k_ ≠ ((.slice Ao36 t534.length co36) : Value).ownBlock ∧ some k_ ≠ (v540 : Value).ownBlock) (.slice Ao9 t507.length co9) t507) ∧ Aside0 (Kd.R k42 42 wc w.heap.size (fun k_ => some k_ ≠ ((.slice Ao9 t507.length co9) : Value).ownBlock ∧ some k_ ≠ (v514 : Value).ownBlock ∧ some k_ ≠ ((.slice Ao23 t522.length co23) : Value).ownBlock ∧ some k_ ≠ (v527 : Value).ownBlock ∧ some k_ ≠ ((.slice Ao36 t534.length co36) : Value).ownBlock ∧ some k_ ≠ (v540 : Value).ownBlock) (.slice Ao10 t508.length co10) t508) ∧ Aside0 (Kd.R k42 42 wc w.heap.size (fun k_ => some k_ ≠ ((.slice Ao9 t507.length co9) : Value).ownBlock ∧ some k_ ≠ ((.slice Ao10 t508.length co10) : Value).ownBlock ∧ some k_ ≠ ((.slice Ao23 t522.length co23) : Value).ownBlock ∧ some k_ ≠ (v527 : Value).ownBlock ∧ some k_ ≠ ((.slice Ao36 t534.length co36) : Value).ownBlock ∧ some k_ ≠ (v540 : Value).ownBlock) v514 t513) ∧ Aside0 (Kd.R k42 42 wc w.heap.size (fun k_ => some k_ ≠ ((.slice Ao9 t507.length co9) : Value).ownBlock ∧ some k_ ≠ ((.slice Ao10 t508.length co10) : Value).ownBlock ∧ some k_ ≠ (v514 : Value).ownBlock ∧ some k_ ≠ (v527 : Value).ownBlock ∧ some k_ ≠ ((.slice Ao36 t534.length co36) : Value).ownBlock ∧ some k_ ≠ (v540 : Value).ownBlock) (.slice Ao23 t522.length co23) t522) ∧ Aside0 (Kd.R k42 42 wc w.heap.size (fun k_ => some k_ ≠ ((.slice Ao9 t507.length co9) : Value).ownBlock ∧ some k_ ≠ ((.slice Ao10 t508.length co10) : Value).ownBlock ∧ some k_ ≠ (v514 : Value).ownBlock ∧ some k_ ≠ ((.slice Ao23 t522.length co23) : Value).ownBlock ∧ some k_ ≠ ((.slice Ao36 t534.length co36) : Value).ownBlock ∧ some k_ ≠ (v540 : Value).ownBlock) v527 t525) ∧ Aside0 (Kd.R k42 42 wc w.heap.size (fun k_ => some k_ ≠ ((.slice Ao9 t507.length co9) : Value).ownBlock ∧ some k_ ≠ ((.slice Ao10 t508.length co10) : Value).ownBlock ∧ some k_ ≠ (v514 : Value).ownBlock ∧ some k_ ≠ ((.slice Ao23 t522.length co23) : Value).ownBlock ∧ some k_ ≠ (v527 : Value).ownBlock ∧ some k_ ≠ (v540 : Value).ownBlock) (.slice Ao36 t534.length co36) t534) ∧ Aside0 (Kd.R k42 42 wc w.heap.size (fun k_ => some k_ ≠ ((.slice Ao9 t507.length co9) : Value).ownBlock ∧ some k_ ≠ ((.slice Ao10 t508.length co10) : Value).ownBlock ∧ some k_ ≠ (v514 : Value).ownBlock ∧ some k_ ≠ ((.slice Ao23 t522.length co23) : Value).ownBlock ∧ some k_ ≠ (v527 : Value).ownBlock ∧ some k_ ≠ ((.slice Ao36 t534.length co36) : Value).ownBlock) v540 t538) ∧ Aside0 (Below w.heap.size w wc))
                 case first =>
                  have H := HC65.out
                  clear HC65
                  by_cases c69 : (t561 != t565) = true
                  ·rw [if_pos c69] at H
                   have c69b0 : (t561 != t565) = true := c69
                   (try (have c69b1 : decide (t561 = t565) = false := by simpa using c69))
                   (try (have c69b2 : (t561 == t565) = false := by simpa using c69))
                   (try (have c69b3 : ¬ (t561 = t565) := by simpa using c69))
                   clear c69
                   (first | rw [c69b0] | (simp only [i64_w, i32_w]; rw [c69b0]) | skip)
                   exact (laws_FnRows.j5_bad _ H hr).elim
                  rw [if_neg c69] at H
                  have c69b0 : (t561 != t565) = false := by simpa using c69
                  (try (have c69b1 : decide (t561 = t565) = true := by simpa using c69))
                  (try (have c69b2 : (t561 == t565) = true := by simpa using c69))
                  clear c69
                  (first | rw [c69b0] | (simp only [i64_w, i32_w]; rw [c69b0]) | skip)
                  replace H := Option.bind_eq_some_iff.mp H
                  obtain ⟨t568, A700, H⟩ := H
                  try dsimp only at H
                  have A70 := Aside0.mk A700
                  clear A700
                  as_aux_lemma =>
                   have H' := Aside0.mk H
                   clear H
                   obtain ⟨Ao71, co71, rfl⟩ := Kd.R_slice HO563.out
                   obtain ⟨Ao72, co72, rfl⟩ := Kd.R_slice HO567.out
                   go_wp2_with (first | (go_at_call 8; (with_reducible refine (laws_rRow.calls kj53 _ _ t560 _ _ t564 t568 _ (Sq.r HO563) (Sq.n HO563) (Sq.r HO567) (Sq.n HO567) A70.out).mono ?_); rintro e w' ⟨rfl, ⟨nd, rfl⟩⟩; (try first | exact ⟨rfl, _, Sq.dd⟩ | exact ⟨rfl, _, Sq.de⟩)))
                   repeat (go_quiet (first | (go_at_call 8; (with_reducible refine (laws_rRow.calls kj53 _ _ t560 _ _ t564 t568 _ (Sq.r HO563) (Sq.n HO563) (Sq.r HO567) (Sq.n HO567) A70.out).mono ?_); rintro e w' ⟨rfl, ⟨nd, rfl⟩⟩; (try first | exact ⟨rfl, _, Sq.dd⟩ | exact ⟨rfl, _, Sq.de⟩))); try go_wp2_with (first | (go_at_call 8; (with_reducible refine (laws_rRow.calls kj53 _ _ t560 _ _ t564 t568 _ (Sq.r HO563) (Sq.n HO563) (Sq.r HO567) (Sq.n HO567) A70.out).mono ?_); rintro e w' ⟨rfl, ⟨nd, rfl⟩⟩; (try first | exact ⟨rfl, _, Sq.dd⟩ | exact ⟨rfl, _, Sq.de⟩))))
                   go_meet
                   case rel => exact ⟨_, (!t568), (by first | rfl | (simp; done) | (simp [*]; done) | (simp [bne]; done)), H', ⟨by have := HJ6.out; have := HJ20.out; have := HJ33.out; have := HJ46.out; have := HJ53.out; first | omega | exact Nat.le_refl _⟩, ⟨Kd.R_mono (Sq.R HO_3) (fun _ hk => ⟨hk.1.1.1, ⟨hk.1.1.2.1, ⟨hk.1.1.2.2.1, ⟨hk.1.1.2.2.2.1, ⟨hk.1.1.2.2.2.2.1, hk.1.1.2.2.2.2.2⟩⟩⟩⟩⟩)⟩, ⟨Kd.R_mono (Sq.R HO_4) (fun _ hk => ⟨hk.1.1.1, ⟨hk.1.1.2.1, ⟨hk.1.1.2.2.1, ⟨hk.1.1.2.2.2.1, ⟨hk.1.1.2.2.2.2.1, hk.1.1.2.2.2.2.2⟩⟩⟩⟩⟩)⟩, ⟨Kd.R_mono (Sq.R HO_5) (fun _ hk => ⟨hk.1.1.1, ⟨hk.1.1.2.1, ⟨hk.1.1.2.2.1, ⟨hk.1.1.2.2.2.1, ⟨hk.1.1.2.2.2.2.1, hk.1.1.2.2.2.2.2⟩⟩⟩⟩⟩)⟩, ⟨Kd.R_mono (Sq.R HO_9) (fun _ hk => ⟨hk.1.1.1, ⟨hk.1.1.2.1, ⟨hk.1.1.2.2.1, ⟨hk.1.1.2.2.2.1, ⟨hk.1.1.2.2.2.2.1, hk.1.1.2.2.2.2.2⟩⟩⟩⟩⟩)⟩, ⟨Kd.R_mono (Sq.R HO_10) (fun _ hk => ⟨hk.1.1.1, ⟨hk.1.1.2.1, ⟨hk.1.1.2.2.1, ⟨hk.1.1.2.2.2.1, ⟨hk.1.1.2.2.2.2.1, hk.1.1.2.2.2.2.2⟩⟩⟩⟩⟩)⟩, ⟨Kd.R_mono (Sq.R HO_14) (fun _ hk => ⟨hk.1.1.1, ⟨hk.1.1.2.1, ⟨hk.1.1.2.2.1, ⟨hk.1.1.2.2.2.1, ⟨hk.1.1.2.2.2.2.1, hk.1.1.2.2.2.2.2⟩⟩⟩⟩⟩)⟩, ⟨Kd.R_mono (Sq.R HO_16) (fun _ hk => ⟨hk.1.1.1, ⟨hk.1.1.2.1, ⟨hk.1.1.2.2.1, ⟨hk.1.1.2.2.2.1, ⟨hk.1.1.2.2.2.2.1, hk.1.1.2.2.2.2.2⟩⟩⟩⟩⟩)⟩, ⟨Sq.B HB⟩⟩
                 case rest =>
                  clear HC65
                  obtain ⟨kq, x185_64, rfl, HA, HJ64, HO_3, HO_4, HO_5, HO_9, HO_10, HO_14, HO_16, HB⟩ := hcut
                  cases kq with
                  | zero => exact absurd HA.out (by simp [laws_FnRows.j5])
                  | succ kj64 =>
                   have H := HA.out
                   clear HA
                   simp only [laws_FnRows.j5] at H
                   by_cases c73 : x185_64 = true
                   ·subst c73
                    rw [if_pos rfl] at H
                    obtain rfl := Option.some.inj H
                    cases hr
                   replace c73 := Bool.eq_false_iff.mpr c73
                   subst c73
                   rw [if_neg (show ¬ (false = true) by decide)] at H
                   have HC74 := Aside0.mk H
                   clear H
                   as_aux_lemma =>
                    go_upto_if 186 with (fail)
                    repeat (go_quiet (fail); go_upto_if 186 with (fail))
                    go_cut [] (fun wc => ∃ (kq : Nat), Aside0 (laws_FnRows.j8 kq t507 t508 t513 t516 t534 t535 t538 t539 = some r) ∧ Aside0 (kq ≤ kj64) ∧ Aside0 (Kd.R k42 42 wc w.heap.size (fun k_ => some k_ ≠ ((.slice Ao10 t508.length co10) : Value).ownBlock ∧ some k_ ≠ (v514 : Value).ownBlock ∧ some k_ ≠ ((.slice Ao36 t534.length co36) : Value).ownBlock ∧ some k_ ≠ (v540 : Value).ownBlock) (.slice Ao9 t507.length co9) t507) ∧ Aside0 (Kd.R k42 42 wc w.heap.size (fun k_ => some k_ ≠ ((.slice Ao9 t507.length co9) : Value).ownBlock ∧ some k_ ≠ (v514 : Value).ownBlock ∧ some k_ ≠ ((.slice Ao36 t534.length co36) : Value).ownBlock ∧ some k_ ≠ (v540 : Value).ownBlock) (.slice Ao10 t508.length co10) t508) ∧ Aside0 (Kd.R k42 42 wc w.heap.size (fun k_ => some k_ ≠ ((.slice Ao9 t507.length co9) : Value).ownBlock ∧ some k_ ≠ ((.slice Ao10 t508.length co10) : Value).ownBlock ∧ some k_ ≠ ((.slice Ao36 t534.length co36) : Value).ownBlock ∧ some k_ ≠ (v540 : Value).ownBlock) v514 t513) ∧ Aside0 (Kd.R k42 42 wc w.heap.size (fun k_ => some k_ ≠ ((.slice Ao9 t507.length co9) : Value).ownBlock ∧ some k_ ≠ ((.slice Ao10 t508.length co10) : Value).ownBlock ∧ some k_ ≠ (v514 : Value).ownBlock ∧ some k_ ≠ (v540 : Value).ownBlock) (.slice Ao36 t534.length co36) t534) ∧ Aside0 (Kd.R k42 42 wc w.heap.size (fun k_ => some k_ ≠ ((.slice Ao9 t507.length co9) : Value).ownBlock ∧ some k_ ≠ ((.slice Ao10 t508.length co10) : Value).ownBlock ∧ some k_ ≠ (v514 : Value).ownBlock ∧ some k_ ≠ ((.slice Ao36 t534.length co36) : Value).ownBlock) v540 t538) ∧ Aside0 (Below w.heap.size w wc))
                    case first =>
                     have H := HC74.out
                     clear HC74
                     by_cases c75 : t526 = true
                     rotate_left
                     ·replace c75 := Bool.eq_false_iff.mpr c75
                      subst c75
                      rw [if_neg (show ¬ (false = true) by decide)] at H
                      as_aux_lemma =>
                       have H' := Aside0.mk H
                       clear H
                       go_wp2
                       repeat (go_quiet (fail); try go_wp2)
                       go_meet
                       case rel => exact ⟨_, H', ⟨by have := HJ6.out; have := HJ20.out; have := HJ33.out; have := HJ46.out; have := HJ53.out; have := HJ64.out; first | omega | exact Nat.le_refl _⟩, ⟨Kd.R_mono (Sq.R HO_3) (fun _ hk => ⟨hk.1, ⟨hk.2.1, ⟨hk.2.2.2.2.1, hk.2.2.2.2.2⟩⟩⟩)⟩, ⟨Kd.R_mono (Sq.R HO_4) (fun _ hk => ⟨hk.1, ⟨hk.2.1, ⟨hk.2.2.2.2.1, hk.2.2.2.2.2⟩⟩⟩)⟩, ⟨Kd.R_mono (Sq.R HO_5) (fun _ hk => ⟨hk.1, ⟨hk.2.1, ⟨hk.2.2.2.2.1, hk.2.2.2.2.2⟩⟩⟩)⟩, ⟨Kd.R_mono (Sq.R HO_14) (fun _ hk => ⟨hk.1, ⟨hk.2.1, ⟨hk.2.2.1, hk.2.2.2.2.2⟩⟩⟩)⟩, ⟨Kd.R_mono (Sq.R HO_16) (fun _ hk => ⟨hk.1, ⟨hk.2.1, ⟨hk.2.2.1, hk.2.2.2.2.2⟩⟩⟩)⟩, ⟨Sq.B HB⟩⟩
                     subst c75
                     rw [if_pos rfl] at H
                     replace H := Option.bind_eq_some_iff.mp H
                     obtain ⟨⟨t569, t570⟩, A760, H⟩ := H
                     try dsimp only at H
                     have A76 := Aside0.mk A760
                     clear A760
                     replace H := Option.bind_eq_some_iff.mp H
                     obtain ⟨⟨t571, t572⟩, A770, H⟩ := H
                     try dsimp only at H
                     have A77 := Aside0.mk A770
                     clear A770
                     have HC78 := Aside0.mk H
                     clear H
                     as_aux_lemma =>
                      go_upto_region 35 with (first | (go_at_call 21; (with_reducible refine (impl_MomentAbout.calls kj64 _ _ t522 7 t569 t570 _ (Sq.r HO_9) (Sq.n HO_9) A76.out).mono ?_); rintro e w79 ⟨rfl, hb⟩; replace HO_3 := Sq.T HO_3 hb; replace HO_4 := Sq.T HO_4 hb; replace HO_5 := Sq.T HO_5 hb; replace HO_9 := Sq.T HO_9 hb; replace HO_10 := Sq.T HO_10 hb; replace HO_14 := Sq.T HO_14 hb; replace HO_16 := Sq.T HO_16 hb; replace HB := Sq.S HB hb; clear hb; obtain ⟨Ao80, co80, rfl⟩ := Kd.R_slice HO_10.out) | (go_at_call 21; (with_reducible refine (impl_MomentAbout.calls kj64 _ _ t525 7 t571 t572 _ (Sq.r HO_10) (Sq.n HO_10) A77.out).mono ?_); rintro e w81 ⟨rfl, hb⟩; replace HO_3 := Sq.T HO_3 hb; replace HO_4 := Sq.T HO_4 hb; replace HO_5 := Sq.T HO_5 hb; replace HO_9 := Sq.T HO_9 hb; replace HO_10 := Sq.T HO_10 hb; replace HO_14 := Sq.T HO_14 hb; replace HO_16 := Sq.T HO_16 hb; replace HB := Sq.S HB hb; clear hb))
                      repeat (go_quiet (first | (go_at_call 21; (with_reducible refine (impl_MomentAbout.calls kj64 _ _ t522 7 t569 t570 _ (Sq.r HO_9) (Sq.n HO_9) A76.out).mono ?_); rintro e w79 ⟨rfl, hb⟩; replace HO_3 := Sq.T HO_3 hb; replace HO_4 := Sq.T HO_4 hb; replace HO_5 := Sq.T HO_5 hb; replace HO_9 := Sq.T HO_9 hb; replace HO_10 := Sq.T HO_10 hb; replace HO_14 := Sq.T HO_14 hb; replace HO_16 := Sq.T HO_16 hb; replace HB := Sq.S HB hb; clear hb; obtain ⟨Ao80, co80, rfl⟩ := Kd.R_slice HO_10.out) | (go_at_call 21; (with_reducible refine (impl_MomentAbout.calls kj64 _ _ t525 7 t571 t572 _ (Sq.r HO_10) (Sq.n HO_10) A77.out).mono ?_); rintro e w81 ⟨rfl, hb⟩; replace HO_3 := Sq.T HO_3 hb; replace HO_4 := Sq.T HO_4 hb; replace HO_5 := Sq.T HO_5 hb; replace HO_9 := Sq.T HO_9 hb; replace HO_10 := Sq.T HO_10 hb; replace HO_14 := Sq.T HO_14 hb; replace HO_16 := Sq.T HO_16 hb; replace HB := Sq.S HB hb; clear hb)); go_upto_region 35 with (first | (go_at_call 21; (with_reducible refine (impl_MomentAbout.calls kj64 _ _ t522 7 t569 t570 _ (Sq.r HO_9) (Sq.n HO_9) A76.out).mono ?_); rintro e w79 ⟨rfl, hb⟩; replace HO_3 := Sq.T HO_3 hb; replace HO_4 := Sq.T HO_4 hb; replace HO_5 := Sq.T HO_5 hb; replace HO_9 := Sq.T HO_9 hb; replace HO_10 := Sq.T HO_10 hb; replace HO_14 := Sq.T HO_14 hb; replace HO_16 := Sq.T HO_16 hb; replace HB := Sq.S HB hb; clear hb; obtain ⟨Ao80, co80, rfl⟩ := Kd.R_slice HO_10.out) | (go_at_call 21; (with_reducible refine (impl_MomentAbout.calls kj64 _ _ t525 7 t571 t572 _ (Sq.r HO_10) (Sq.n HO_10) A77.out).mono ?_); rintro e w81 ⟨rfl, hb⟩; replace HO_3 := Sq.T HO_3 hb; replace HO_4 := Sq.T HO_4 hb; replace HO_5 := Sq.T HO_5 hb; replace HO_9 := Sq.T HO_9 hb; replace HO_10 := Sq.T HO_10 hb; replace HO_14 := Sq.T HO_14 hb; replace HO_16 := Sq.T HO_16 hb; replace HB := Sq.S HB hb; clear hb)))
                      (try simp only [Act.put, List.setIfInBounds_toArray, List.set_cons_zero, List.set_cons_succ])
                      go_cut [207] (fun v207 wc => ∃ (kq : Nat) (x207_77 : Bool), v207 = .bool x207_77 ∧ Aside0 (laws_FnRows.j6 kq t507 t508 t513 t516 t525 t534 t535 t538 t539 x207_77 = some r) ∧ Aside0 (kq ≤ kj64) ∧ Aside0 (Kd.R k42 42 wc w.heap.size (fun k_ => some k_ ≠ ((.slice Ao10 t508.length co10) : Value).ownBlock ∧ some k_ ≠ (v514 : Value).ownBlock ∧ some k_ ≠ ((.slice Ao80 t525.length co80) : Value).ownBlock ∧ some k_ ≠ ((.slice Ao36 t534.length co36) : Value).ownBlock ∧ some k_ ≠ (v540 : Value).ownBlock) (.slice Ao9 t507.length co9) t507) ∧ Aside0 (Kd.R k42 42 wc w.heap.size (fun k_ => some k_ ≠ ((.slice Ao9 t507.length co9) : Value).ownBlock ∧ some k_ ≠ (v514 : Value).ownBlock ∧ some k_ ≠ ((.slice Ao80 t525.length co80) : Value).ownBlock ∧ some k_ ≠ ((.slice Ao36 t534.length co36) : Value).ownBlock ∧ some k_ ≠ (v540 : Value).ownBlock) (.slice Ao10 t508.length co10) t508) ∧ Aside0 (Kd.R k42 42 wc w.heap.size (fun k_ => some k_ ≠ ((.slice Ao9 t507.length co9) : Value).ownBlock ∧ some k_ ≠ ((.slice Ao10 t508.length co10) : Value).ownBlock ∧ some k_ ≠ ((.slice Ao80 t525.length co80) : Value).ownBlock ∧ some k_ ≠ ((.slice Ao36 t534.length co36) : Value).ownBlock ∧ some k_ ≠ (v540 : Value).ownBlock) v514 t513) ∧ Aside0 (Kd.R k42 42 wc w.heap.size (fun k_ => some k_ ≠ ((.slice Ao9 t507.length co9) : Value).ownBlock ∧ some k_ ≠ ((.slice Ao10 t508.length co10) : Value).ownBlock ∧ some k_ ≠ (v514 : Value).ownBlock ∧ some k_ ≠ ((.slice Ao36 t534.length co36) : Value).ownBlock ∧ some k_ ≠ (v540 : Value).ownBlock) (.slice Ao80 t525.length co80) t525) ∧ Aside0 (Kd.R k42 42 wc w.heap.size (fun k_ => some k_ ≠ ((.slice Ao9 t507.length co9) : Value).ownBlock ∧ some k_ ≠ ((.slice Ao10 t508.length co10) : Value).ownBlock ∧ some k_ ≠ (v514 : Value).ownBlock ∧ some k_ ≠ ((.slice Ao80 t525.length co80) : Value).ownBlock ∧ some k_ ≠ (v540 : Value).ownBlock) (.slice Ao36 t534.length co36) t534) ∧ Aside0 (Kd.R k42 42 wc w.heap.size (fun k_ => some k_ ≠ ((.slice Ao9 t507.length co9) : Value).ownBlock ∧ some k_ ≠ ((.slice Ao10 t508.length co10) : Value).ownBlock ∧ some k_ ≠ (v514 : Value).ownBlock ∧ some k_ ≠ ((.slice Ao80 t525.length co80) : Value).ownBlock ∧ some k_ ≠ ((.slice Ao36 t534.length co36) : Value).ownBlock) v540 t538) ∧ Aside0 (Below w.heap.size w wc))
                      case first =>
                       have H := HC78.out
                       clear HC78
                       by_cases c82 : t570 = true
                       rotate_left
                       ·replace c82 := Bool.eq_false_iff.mpr c82
                        subst c82
                        rw [if_neg (show ¬ (false = true) by decide)] at H
                        exact (laws_FnRows.j6_bad _ H hr).elim
                       subst c82
                       rw [if_pos rfl] at H
                       by_cases c83 : t572 = true
                       rotate_left
                       ·replace c83 := Bool.eq_false_iff.mpr c83
                        subst c83
                        rw [if_neg (show ¬ (false = true) by decide)] at H
                        exact (laws_FnRows.j6_bad _ H hr).elim
                       subst c83
                       rw [if_pos rfl] at H
                       as_aux_lemma =>
                        have H' := Aside0.mk H
                        clear H
                        go_wp2
                        repeat (go_quiet (fail); try go_wp2)
                        go_meet
                        case rel => exact ⟨_, ((t569 != t571)), (by first | rfl | (simp; done) | (simp [*]; done) | (simp [bne]; done)), H', ⟨by have := HJ6.out; have := HJ20.out; have := HJ33.out; have := HJ46.out; have := HJ53.out; have := HJ64.out; first | omega | exact Nat.le_refl _⟩, ⟨Kd.R_mono (Sq.R HO_3) (fun _ hk => ⟨hk.1, ⟨hk.2.1, ⟨hk.2.2.2.1, ⟨hk.2.2.2.2.1, hk.2.2.2.2.2⟩⟩⟩⟩)⟩, ⟨Kd.R_mono (Sq.R HO_4) (fun _ hk => ⟨hk.1, ⟨hk.2.1, ⟨hk.2.2.2.1, ⟨hk.2.2.2.2.1, hk.2.2.2.2.2⟩⟩⟩⟩)⟩, ⟨Kd.R_mono (Sq.R HO_5) (fun _ hk => ⟨hk.1, ⟨hk.2.1, ⟨hk.2.2.2.1, ⟨hk.2.2.2.2.1, hk.2.2.2.2.2⟩⟩⟩⟩)⟩, ⟨Kd.R_mono (Sq.R HO_10) (fun _ hk => ⟨hk.1, ⟨hk.2.1, ⟨hk.2.2.1, ⟨hk.2.2.2.2.1, hk.2.2.2.2.2⟩⟩⟩⟩)⟩, ⟨Kd.R_mono (Sq.R HO_14) (fun _ hk => ⟨hk.1, ⟨hk.2.1, ⟨hk.2.2.1, ⟨hk.2.2.2.2.1, hk.2.2.2.2.2⟩⟩⟩⟩)⟩, ⟨Kd.R_mono (Sq.R HO_16) (fun _ hk => ⟨hk.1, ⟨hk.2.1, ⟨hk.2.2.1, ⟨hk.2.2.2.2.1, hk.2.2.2.2.2⟩⟩⟩⟩)⟩, ⟨Sq.B HB⟩⟩
                      case rest =>
                       clear HC78
                       obtain ⟨kq, x207_77, rfl, HA, HJ77, HO_3, HO_4, HO_5, HO_10, HO_14, HO_16, HB⟩ := hcut
                       cases kq with
                       | zero => exact absurd HA.out (by simp [laws_FnRows.j6])
                       | succ kj77 =>
                        have H := HA.out
                        clear HA
                        simp only [laws_FnRows.j6] at H
                        by_cases c84 : x207_77 = true
                        ·subst c84
                         rw [if_pos rfl] at H
                         obtain rfl := Option.some.inj H
                         cases hr
                        replace c84 := Bool.eq_false_iff.mpr c84
                        subst c84
                        rw [if_neg (show ¬ (false = true) by decide)] at H
                        have H' := Aside0.mk H
                        clear H
                        as_aux_lemma =>
                         go_wp2
                         repeat (go_quiet (fail); try go_wp2)
                         go_loopg [36] kj77 (fun kq v36 w' => ∃ (x36_8 : Int), v36 = .int .i64 x36_8 ∧ Aside0 (laws_FnRows.l0 kq t507 t508 t513 t516 t525 t534 t535 t538 t539 x36_8 = some r) ∧ Aside0 (kq ≤ kj77) ∧ Aside0 (Kd.R k42 42 w' w.heap.size (fun k_ => some k_ ≠ ((.slice Ao10 t508.length co10) : Value).ownBlock ∧ some k_ ≠ (v514 : Value).ownBlock ∧ some k_ ≠ ((.slice Ao80 t525.length co80) : Value).ownBlock ∧ some k_ ≠ ((.slice Ao36 t534.length co36) : Value).ownBlock ∧ some k_ ≠ (v540 : Value).ownBlock) (.slice Ao9 t507.length co9) t507) ∧ Aside0 (Kd.R k42 42 w' w.heap.size (fun k_ => some k_ ≠ ((.slice Ao9 t507.length co9) : Value).ownBlock ∧ some k_ ≠ (v514 : Value).ownBlock ∧ some k_ ≠ ((.slice Ao80 t525.length co80) : Value).ownBlock ∧ some k_ ≠ ((.slice Ao36 t534.length co36) : Value).ownBlock ∧ some k_ ≠ (v540 : Value).ownBlock) (.slice Ao10 t508.length co10) t508) ∧ Aside0 (Kd.R k42 42 w' w.heap.size (fun k_ => some k_ ≠ ((.slice Ao9 t507.length co9) : Value).ownBlock ∧ some k_ ≠ ((.slice Ao10 t508.length co10) : Value).ownBlock ∧ some k_ ≠ ((.slice Ao80 t525.length co80) : Value).ownBlock ∧ some k_ ≠ ((.slice Ao36 t534.length co36) : Value).ownBlock ∧ some k_ ≠ (v540 : Value).ownBlock) v514 t513) ∧ Aside0 (Kd.R k42 42 w' w.heap.size (fun k_ => some k_ ≠ ((.slice Ao9 t507.length co9) : Value).ownBlock ∧ some k_ ≠ ((.slice Ao10 t508.length co10) : Value).ownBlock ∧ some k_ ≠ (v514 : Value).ownBlock ∧ some k_ ≠ ((.slice Ao36 t534.length co36) : Value).ownBlock ∧ some k_ ≠ (v540 : Value).ownBlock) (.slice Ao80 t525.length co80) t525) ∧ Aside0 (Kd.R k42 42 w' w.heap.size (fun k_ => some k_ ≠ ((.slice Ao9 t507.length co9) : Value).ownBlock ∧ some k_ ≠ ((.slice Ao10 t508.length co10) : Value).ownBlock ∧ some k_ ≠ (v514 : Value).ownBlock ∧ some k_ ≠ ((.slice Ao80 t525.length co80) : Value).ownBlock ∧ some k_ ≠ (v540 : Value).ownBlock) (.slice Ao36 t534.length co36) t534) ∧ Aside0 (Kd.R k42 42 w' w.heap.size (fun k_ => some k_ ≠ ((.slice Ao9 t507.length co9) : Value).ownBlock ∧ some k_ ≠ ((.slice Ao10 t508.length co10) : Value).ownBlock ∧ some k_ ≠ (v514 : Value).ownBlock ∧ some k_ ≠ ((.slice Ao80 t525.length co80) : Value).ownBlock ∧ some k_ ≠ ((.slice Ao36 t534.length co36) : Value).ownBlock) v540 t538) ∧ Aside0 (Below w.heap.size w w'))
                         case atStart => exact ⟨(1), (by first | rfl | (simp; done) | (simp [*]; done) | (simp [bne]; done)), H', ⟨Nat.le_refl _⟩, ⟨by (with_reducible repeat (first | apply Kd.R_alloc | apply Kd.R_drewN | apply Kd.R_drew)); exact HO_3.out⟩, ⟨by (with_reducible repeat (first | apply Kd.R_alloc | apply Kd.R_drewN | apply Kd.R_drew)); exact HO_4.out⟩, ⟨by (with_reducible repeat (first | apply Kd.R_alloc | apply Kd.R_drewN | apply Kd.R_drew)); exact HO_5.out⟩, ⟨by (with_reducible repeat (first | apply Kd.R_alloc | apply Kd.R_drewN | apply Kd.R_drew)); exact HO_10.out⟩, ⟨by (with_reducible repeat (first | apply Kd.R_alloc | apply Kd.R_drewN | apply Kd.R_drew)); exact HO_14.out⟩, ⟨by (with_reducible repeat (first | apply Kd.R_alloc | apply Kd.R_drewN | apply Kd.R_drew)); exact HO_16.out⟩, ⟨Sq.B HB⟩⟩
                         case round =>
                          clear H'
                          obtain ⟨x36_8, rfl, HA, HK8, HO_3, HO_4, HO_5, HO_10, HO_14, HO_16, HB⟩ := hrel
                          cases gk with
                          | zero => exact absurd HA.out (by simp [laws_FnRows.l0])
                          | succ k8 =>
                           have H := HA.out
                           clear HA
                           simp only [laws_FnRows.l0] at H
                           by_cases c85 : x36_8 < (t525.length : Int)
                           rotate_left
                           ·rw [if_neg c85] at H
                            have c85b0 : decide (x36_8 < (t525.length : Int)) = false := decide_eq_false c85
                            clear c85
                            as_aux_lemma =>
                             have H' := Aside0.mk H
                             clear H
                             go_wp2
                             repeat (go_quiet (fail); try go_wp2)
                             go_meet
                             case rel => exact ⟨_, H', ⟨by have := HJ6.out; have := HJ20.out; have := HJ33.out; have := HJ46.out; have := HJ53.out; have := HJ64.out; have := HJ77.out; have := HK8.out; first | omega | exact Nat.le_refl _⟩, ⟨Kd.R_mono (Sq.R HO_3) (fun _ hk => ⟨hk.1, ⟨hk.2.1, ⟨hk.2.2.2.1, hk.2.2.2.2⟩⟩⟩)⟩, ⟨Kd.R_mono (Sq.R HO_4) (fun _ hk => ⟨hk.1, ⟨hk.2.1, ⟨hk.2.2.2.1, hk.2.2.2.2⟩⟩⟩)⟩, ⟨Kd.R_mono (Sq.R HO_5) (fun _ hk => ⟨hk.1, ⟨hk.2.1, ⟨hk.2.2.2.1, hk.2.2.2.2⟩⟩⟩)⟩, ⟨Kd.R_mono (Sq.R HO_14) (fun _ hk => ⟨hk.1, ⟨hk.2.1, ⟨hk.2.2.1, hk.2.2.2.2⟩⟩⟩)⟩, ⟨Kd.R_mono (Sq.R HO_16) (fun _ hk => ⟨hk.1, ⟨hk.2.1, ⟨hk.2.2.1, hk.2.2.2.2⟩⟩⟩)⟩, ⟨Sq.B HB⟩⟩
                           rw [if_pos c85] at H
                           have c85b0 : decide (x36_8 < (t525.length : Int)) = true := decide_eq_true c85
                           clear c85
                           by_cases c86 : 0 ≤ x36_8
                           rotate_left
                           ·rw [if_neg c86] at H
                            exact absurd H (by simp)
                           rw [if_pos c86] at H
                           have c86b0 : decide (0 ≤ x36_8) = true := decide_eq_true c86
                           clear c86
                           obtain ⟨ji87, hji87⟩ : ∃ j_ : Int, (wrap64 (x36_8 - 1)) = j_ := ⟨_, rfl⟩
                           replace H : (if 0 ≤ (ji87) then (if (ji87) < (t525.length : Int) then (if ((rd_T42 t525 x36_8).f0) ≤ ((rd_T42 t525 (ji87)).f0) then (some false) else (laws_FnRows.l0 k8 t507 t508 t513 t516 t525 t534 t535 t538 t539 (wrap64 (x36_8 + 1)))) else (none)) else (none)) = some r := by first | (rw [hji87] at H; exact H) | (simp only [hji87] at H ⊢; exact H)
                           have hji87w : (IntKind.i64.wrap (x36_8 - 1)) = ji87 := (i64_w _).trans hji87
                           by_cases c88 : 0 ≤ (ji87)
                           rotate_left
                           ·rw [if_neg c88] at H
                            exact absurd H (by simp)
                           rw [if_pos c88] at H
                           have c88b0 : decide (0 ≤ (ji87)) = true := decide_eq_true c88
                           clear c88
                           by_cases c89 : (ji87) < (t525.length : Int)
                           rotate_left
                           ·rw [if_neg c89] at H
                            exact absurd H (by simp)
                           rw [if_pos c89] at H
                           have c89b0 : decide ((ji87) < (t525.length : Int)) = true := decide_eq_true c89
                           clear c89
                           by_cases c90 : ((rd_T42 t525 x36_8).f0) ≤ ((rd_T42 t525 (ji87)).f0)
                           ·rw [if_pos c90] at H
                            have c90b0 : decide (((rd_T42 t525 x36_8).f0) ≤ ((rd_T42 t525 (ji87)).f0)) = true := decide_eq_true c90
                            clear c90
                            obtain rfl := Option.some.inj H
                            cases hr
                           rw [if_neg c90] at H
                           have c90b0 : decide (((rd_T42 t525 x36_8).f0) ≤ ((rd_T42 t525 (ji87)).f0)) = false := decide_eq_false c90
                           clear c90
                           as_aux_lemma =>
                            have H' := Aside0.mk H
                            clear H
                            have p573 : 0 ≤ (x36_8 : Int) := of_decide_eq_true (by first | (with_reducible assumption) | assumption)
                            have q573 : x36_8 < (t525.length : Int) := of_decide_eq_true (by first | (with_reducible assumption) | assumption)
                            obtain ⟨ad573, e573, hx573_0, hx573_1⟩ := at_T42 (Kd.R_reads' HO_10.out).2.2 x36_8 p573 q573
                            cases e573
                            replace p573 := eq_true p573
                            replace q573 := eq_true q573
                            have p574 : 0 ≤ ((ji87) : Int) := of_decide_eq_true (by first | (with_reducible assumption) | assumption)
                            have q574 : (ji87) < (t525.length : Int) := of_decide_eq_true (by first | (with_reducible assumption) | assumption)
                            obtain ⟨ad574, e574, hx574_0, hx574_1⟩ := at_T42 (Kd.R_reads' HO_10.out).2.2 (ji87) p574 q574
                            obtain rfl : ad573 = ad574 := (by injection e574)
                            replace p574 := eq_true p574
                            replace q574 := eq_true q574
                            go_wp2
                            repeat (go_quiet (fail); try go_wp2)
                            go_roundg k8
                            case measure => have := HJ6.out; have := HJ20.out; have := HJ33.out; have := HJ46.out; have := HJ53.out; have := HJ64.out; have := HJ77.out; have := HK8.out; omega
                            case rel => exact ⟨(wrap64 (x36_8 + 1)), (by first | rfl | (simp; done) | (simp [*]; done) | (simp [bne]; done)), H', ⟨by have := HJ6.out; have := HJ20.out; have := HJ33.out; have := HJ46.out; have := HJ53.out; have := HJ64.out; have := HJ77.out; have := HK8.out; omega⟩, ⟨by (with_reducible repeat (first | apply Kd.R_alloc | apply Kd.R_drewN | apply Kd.R_drew)); exact HO_3.out⟩, ⟨by (with_reducible repeat (first | apply Kd.R_alloc | apply Kd.R_drewN | apply Kd.R_drew)); exact HO_4.out⟩, ⟨by (with_reducible repeat (first | apply Kd.R_alloc | apply Kd.R_drewN | apply Kd.R_drew)); exact HO_5.out⟩, ⟨by (with_reducible repeat (first | apply Kd.R_alloc | apply Kd.R_drewN | apply Kd.R_drew)); exact HO_10.out⟩, ⟨by (with_reducible repeat (first | apply Kd.R_alloc | apply Kd.R_drewN | apply Kd.R_drew)); exact HO_14.out⟩, ⟨by (with_reducible repeat (first | apply Kd.R_alloc | apply Kd.R_drewN | apply Kd.R_drew)); exact HO_16.out⟩, ⟨Sq.B HB⟩⟩
                    case rest =>
                     clear HC74; try clear hx5; try clear hx57; try clear hx573_0; try clear hx573_1; try clear hx574_0; try clear hx574_1
                     obtain ⟨kq, HA, HJ73, HO_3, HO_4, HO_5, HO_14, HO_16, HB⟩ := hcut
                     cases kq with
                     | zero => exact absurd HA.out (by simp [laws_FnRows.j8])
                     | succ kj73 =>
                      have H := HA.out
                      clear HA
                      simp only [laws_FnRows.j8] at H
                      have HC91 := Aside0.mk H
                      clear H
                      as_aux_lemma =>
                       go_upto_if 226 with (fail)
                       repeat (go_quiet (fail); go_upto_if 226 with (fail))
                       go_cut [] (fun wc => ∃ (kq : Nat), Aside0 (laws_FnRows.j9 kq t507 t508 t513 t516 = some r) ∧ Aside0 (kq ≤ kj73) ∧ Aside0 (Kd.R k42 42 wc w.heap.size (fun k_ => some k_ ≠ ((.slice Ao10 t508.length co10) : Value).ownBlock ∧ some k_ ≠ (v514 : Value).ownBlock) (.slice Ao9 t507.length co9) t507) ∧ Aside0 (Kd.R k42 42 wc w.heap.size (fun k_ => some k_ ≠ ((.slice Ao9 t507.length co9) : Value).ownBlock ∧ some k_ ≠ (v514 : Value).ownBlock) (.slice Ao10 t508.length co10) t508) ∧ Aside0 (Kd.R k42 42 wc w.heap.size (fun k_ => some k_ ≠ ((.slice Ao9 t507.length co9) : Value).ownBlock ∧ some k_ ≠ ((.slice Ao10 t508.length co10) : Value).ownBlock) v514 t513) ∧ Aside0 (Below w.heap.size w wc))
                       case first =>
                        have H := HC91.out
                        clear HC91
                        by_cases c92 : t539 = true
                        rotate_left
                        ·replace c92 := Bool.eq_false_iff.mpr c92
                         subst c92
                         rw [if_neg (show ¬ (false = true) by decide)] at H
                         as_aux_lemma =>
                          have H' := Aside0.mk H
                          clear H
                          go_wp2
                          repeat (go_quiet (fail); try go_wp2)
                          go_meet
                          case rel => exact ⟨_, H', ⟨by have := HJ6.out; have := HJ20.out; have := HJ33.out; have := HJ46.out; have := HJ53.out; have := HJ64.out; have := HJ73.out; first | omega | exact Nat.le_refl _⟩, ⟨Kd.R_mono (Sq.R HO_3) (fun _ hk => ⟨hk.1, hk.2.1⟩)⟩, ⟨Kd.R_mono (Sq.R HO_4) (fun _ hk => ⟨hk.1, hk.2.1⟩)⟩, ⟨Kd.R_mono (Sq.R HO_5) (fun _ hk => ⟨hk.1, hk.2.1⟩)⟩, ⟨Sq.B HB⟩⟩
                        subst c92
                        rw [if_pos rfl] at H
                        replace H := Option.bind_eq_some_iff.mp H
                        obtain ⟨⟨t575, t576⟩, A930, H⟩ := H
                        try dsimp only at H
                        have A93 := Aside0.mk A930
                        clear A930
                        replace H := Option.bind_eq_some_iff.mp H
                        obtain ⟨⟨t577, t578⟩, A940, H⟩ := H
                        try dsimp only at H
                        have A94 := Aside0.mk A940
                        clear A940
                        replace H := Option.bind_eq_some_iff.mp H
                        obtain ⟨⟨t579, t580⟩, A950, H⟩ := H
                        try dsimp only at H
                        have A95 := Aside0.mk A950
                        clear A950
                        by_cases c96 : t576 = true
                        rotate_left
                        ·replace c96 := Bool.eq_false_iff.mpr c96
                         subst c96
                         rw [if_neg (show ¬ (false = true) by decide)] at H
                         obtain rfl := Option.some.inj H
                         cases hr
                        subst c96
                        rw [if_pos rfl] at H
                        by_cases c97 : t578 = true
                        rotate_left
                        ·replace c97 := Bool.eq_false_iff.mpr c97
                         subst c97
                         rw [if_neg (show ¬ (false = true) by decide)] at H
                         obtain rfl := Option.some.inj H
                         cases hr
                        subst c97
                        rw [if_pos rfl] at H
                        by_cases c98 : t580 = true
                        rotate_left
                        ·replace c98 := Bool.eq_false_iff.mpr c98
                         subst c98
                         rw [if_neg (show ¬ (false = true) by decide)] at H
                         obtain rfl := Option.some.inj H
                         cases hr
                        subst c98
                        rw [if_pos rfl] at H
                        by_cases c99 : t577 = (wrap64 (t575 + (wrap64 (t579 * t535))))
                        rotate_left
                        ·rw [if_neg c99] at H
                         have c99b0 : (t577 == (wrap64 (t575 + (wrap64 (t579 * t535))))) = false := beq_eq_false_iff_ne.mpr c99
                         have c99b1 : (t577 != (wrap64 (t575 + (wrap64 (t579 * t535))))) = true := bne_iff_ne.mpr c99
                         (first | rw [c99b0] | (simp only [i64_w, i32_w]; rw [c99b0]) | skip)
                         obtain rfl := Option.some.inj H
                         cases hr
                        rw [if_pos c99] at H
                        have c99b0 : (t577 == (wrap64 (t575 + (wrap64 (t579 * t535))))) = true := beq_iff_eq.mpr c99
                        have c99b1 : (t577 != (wrap64 (t575 + (wrap64 (t579 * t535))))) = false := bne_eq_false_iff_eq.mpr c99
                        clear c99
                        (first | rw [c99b0] | (simp only [i64_w, i32_w]; rw [c99b0]) | skip)
                        as_aux_lemma =>
                         have H' := Aside0.mk H
                         clear H
                         go_wp2_with (first | (go_at_call 21; (with_reducible refine (impl_MomentAbout.calls kj73 _ _ t534 0 t575 true _ (Sq.r HO_14) (Sq.n HO_14) A93.out).mono ?_); rintro e w100 ⟨rfl, hb⟩; replace HO_3 := Sq.T HO_3 hb; replace HO_4 := Sq.T HO_4 hb; replace HO_5 := Sq.T HO_5 hb; replace HO_14 := Sq.T HO_14 hb; replace HO_16 := Sq.T HO_16 hb; replace HB := Sq.S HB hb; clear hb; obtain ⟨Ao101, co101, rfl⟩ := Kd.R_slice HO_16.out) | (go_at_call 21; (with_reducible refine (impl_MomentAbout.calls kj73 _ _ t538 0 t577 true _ (Sq.r HO_16) (Sq.n HO_16) A94.out).mono ?_); rintro e w102 ⟨rfl, hb⟩; replace HO_3 := Sq.T HO_3 hb; replace HO_4 := Sq.T HO_4 hb; replace HO_5 := Sq.T HO_5 hb; replace HO_14 := Sq.T HO_14 hb; replace HO_16 := Sq.T HO_16 hb; replace HB := Sq.S HB hb; clear hb) | (go_at_call 22; (with_reducible refine (impl_WeightOf.calls kj73 _ _ t534 t579 true _ (Sq.r HO_14) (Sq.n HO_14) A95.out).mono ?_); rintro e w103 ⟨rfl, hb⟩; replace HO_3 := Sq.T HO_3 hb; replace HO_4 := Sq.T HO_4 hb; replace HO_5 := Sq.T HO_5 hb; replace HO_14 := Sq.T HO_14 hb; replace HO_16 := Sq.T HO_16 hb; replace HB := Sq.S HB hb; clear hb))
                         repeat (go_quiet (first | (go_at_call 21; (with_reducible refine (impl_MomentAbout.calls kj73 _ _ t534 0 t575 true _ (Sq.r HO_14) (Sq.n HO_14) A93.out).mono ?_); rintro e w100 ⟨rfl, hb⟩; replace HO_3 := Sq.T HO_3 hb; replace HO_4 := Sq.T HO_4 hb; replace HO_5 := Sq.T HO_5 hb; replace HO_14 := Sq.T HO_14 hb; replace HO_16 := Sq.T HO_16 hb; replace HB := Sq.S HB hb; clear hb; obtain ⟨Ao101, co101, rfl⟩ := Kd.R_slice HO_16.out) | (go_at_call 21; (with_reducible refine (impl_MomentAbout.calls kj73 _ _ t538 0 t577 true _ (Sq.r HO_16) (Sq.n HO_16) A94.out).mono ?_); rintro e w102 ⟨rfl, hb⟩; replace HO_3 := Sq.T HO_3 hb; replace HO_4 := Sq.T HO_4 hb; replace HO_5 := Sq.T HO_5 hb; replace HO_14 := Sq.T HO_14 hb; replace HO_16 := Sq.T HO_16 hb; replace HB := Sq.S HB hb; clear hb) | (go_at_call 22; (with_reducible refine (impl_WeightOf.calls kj73 _ _ t534 t579 true _ (Sq.r HO_14) (Sq.n HO_14) A95.out).mono ?_); rintro e w103 ⟨rfl, hb⟩; replace HO_3 := Sq.T HO_3 hb; replace HO_4 := Sq.T HO_4 hb; replace HO_5 := Sq.T HO_5 hb; replace HO_14 := Sq.T HO_14 hb; replace HO_16 := Sq.T HO_16 hb; replace HB := Sq.S HB hb; clear hb)); try go_wp2_with (first | (go_at_call 21; (with_reducible refine (impl_MomentAbout.calls kj73 _ _ t534 0 t575 true _ (Sq.r HO_14) (Sq.n HO_14) A93.out).mono ?_); rintro e w100 ⟨rfl, hb⟩; replace HO_3 := Sq.T HO_3 hb; replace HO_4 := Sq.T HO_4 hb; replace HO_5 := Sq.T HO_5 hb; replace HO_14 := Sq.T HO_14 hb; replace HO_16 := Sq.T HO_16 hb; replace HB := Sq.S HB hb; clear hb; obtain ⟨Ao101, co101, rfl⟩ := Kd.R_slice HO_16.out) | (go_at_call 21; (with_reducible refine (impl_MomentAbout.calls kj73 _ _ t538 0 t577 true _ (Sq.r HO_16) (Sq.n HO_16) A94.out).mono ?_); rintro e w102 ⟨rfl, hb⟩; replace HO_3 := Sq.T HO_3 hb; replace HO_4 := Sq.T HO_4 hb; replace HO_5 := Sq.T HO_5 hb; replace HO_14 := Sq.T HO_14 hb; replace HO_16 := Sq.T HO_16 hb; replace HB := Sq.S HB hb; clear hb) | (go_at_call 22; (with_reducible refine (impl_WeightOf.calls kj73 _ _ t534 t579 true _ (Sq.r HO_14) (Sq.n HO_14) A95.out).mono ?_); rintro e w103 ⟨rfl, hb⟩; replace HO_3 := Sq.T HO_3 hb; replace HO_4 := Sq.T HO_4 hb; replace HO_5 := Sq.T HO_5 hb; replace HO_14 := Sq.T HO_14 hb; replace HO_16 := Sq.T HO_16 hb; replace HB := Sq.S HB hb; clear hb)))
                         go_meet
                         case rel => exact ⟨_, H', ⟨by have := HJ6.out; have := HJ20.out; have := HJ33.out; have := HJ46.out; have := HJ53.out; have := HJ64.out; have := HJ73.out; first | omega | exact Nat.le_refl _⟩, ⟨Kd.R_mono (Sq.R HO_3) (fun _ hk => ⟨hk.1, hk.2.1⟩)⟩, ⟨Kd.R_mono (Sq.R HO_4) (fun _ hk => ⟨hk.1, hk.2.1⟩)⟩, ⟨Kd.R_mono (Sq.R HO_5) (fun _ hk => ⟨hk.1, hk.2.1⟩)⟩, ⟨Sq.B HB⟩⟩
                       case rest =>
                        clear HC91; try clear hx5; try clear hx57; try clear hx573_0; try clear hx573_1; try clear hx574_0; try clear hx574_1
                        obtain ⟨kq, HA, HJ90, HO_3, HO_4, HO_5, HB⟩ := hcut
                        cases kq with
                        | zero => exact absurd HA.out (by simp [laws_FnRows.j9])
                        | succ kj90 =>
                         have H := HA.out
                         clear HA
                         simp only [laws_FnRows.j9] at H
                         by_cases c104 : t516 = true
                         rotate_left
                         ·replace c104 := Bool.eq_false_iff.mpr c104
                          subst c104
                          rw [if_neg (show ¬ (false = true) by decide)] at H
                          as_aux_lemma =>
                           obtain rfl := Option.some.inj H
                           go_wp2
                           repeat (go_quiet (fail); try go_wp2)
                           go_ret
                           exact ⟨by first | rfl | (simp [errW_none, errW_some] <;> rfl) | (simp [*, errW_none, errW_some] <;> rfl), Sq.B HB⟩


                         subst c104
                         rw [if_pos rfl] at H
                         have H' := Aside0.mk H
                         clear H
                         as_aux_lemma =>
                          go_wp2
                          repeat (go_quiet (fail); try go_wp2)
                          go_loopg [43] kj90 (fun kq v43 w' => ∃ (x43_9 : Int), v43 = .int .i64 x43_9 ∧ Aside0 (laws_FnRows.l1 kq t507 t508 t513 x43_9 = some r) ∧ Aside0 (kq ≤ kj90) ∧ Aside0 (Kd.R k42 42 w' w.heap.size (fun k_ => some k_ ≠ ((.slice Ao10 t508.length co10) : Value).ownBlock ∧ some k_ ≠ (v514 : Value).ownBlock) (.slice Ao9 t507.length co9) t507) ∧ Aside0 (Kd.R k42 42 w' w.heap.size (fun k_ => some k_ ≠ ((.slice Ao9 t507.length co9) : Value).ownBlock ∧ some k_ ≠ (v514 : Value).ownBlock) (.slice Ao10 t508.length co10) t508) ∧ Aside0 (Kd.R k42 42 w' w.heap.size (fun k_ => some k_ ≠ ((.slice Ao9 t507.length co9) : Value).ownBlock ∧ some k_ ≠ ((.slice Ao10 t508.length co10) : Value).ownBlock) v514 t513) ∧ Aside0 (Below w.heap.size w w'))
                          case atStart => exact ⟨(0), (by first | rfl | (simp; done) | (simp [*]; done) | (simp [bne]; done)), H', ⟨Nat.le_refl _⟩, ⟨by (with_reducible repeat (first | apply Kd.R_alloc | apply Kd.R_drewN | apply Kd.R_drew)); exact HO_3.out⟩, ⟨by (with_reducible repeat (first | apply Kd.R_alloc | apply Kd.R_drewN | apply Kd.R_drew)); exact HO_4.out⟩, ⟨by (with_reducible repeat (first | apply Kd.R_alloc | apply Kd.R_drewN | apply Kd.R_drew)); exact HO_5.out⟩, ⟨Sq.B HB⟩⟩
                          case round =>
                           clear H'; try clear hx5; try clear hx57; try clear hx573_0; try clear hx573_1; try clear hx574_0; try clear hx574_1
                           obtain ⟨x43_9, rfl, HA, HK9, HO_3, HO_4, HO_5, HB⟩ := hrel
                           cases gk with
                           | zero => exact absurd HA.out (by simp [laws_FnRows.l1])
                           | succ k9 =>
                            have H := HA.out
                            clear HA
                            simp only [laws_FnRows.l1] at H
                            by_cases c105 : x43_9 < 20
                            rotate_left
                            ·rw [if_neg c105] at H
                             have c105b0 : decide (x43_9 < 20) = false := decide_eq_false c105
                             clear c105
                             as_aux_lemma =>
                              obtain rfl := Option.some.inj H
                              go_wp2
                              repeat (go_quiet (fail); try go_wp2)
                              go_ret
                              exact ⟨by first | rfl | (simp [errW_none, errW_some] <;> rfl) | (simp [*, errW_none, errW_some] <;> rfl), Sq.B HB⟩
                            rw [if_pos c105] at H
                            have c105b0 : decide (x43_9 < 20) = true := decide_eq_true c105
                            clear c105
                            replace H := Option.bind_eq_some_iff.mp H
                            obtain ⟨⟨t581, t582⟩, A1060, H⟩ := H
                            try dsimp only at H
                            have A106 := Aside0.mk A1060
                            clear A1060
                            replace H := Option.bind_eq_some_iff.mp H
                            obtain ⟨⟨t583, t584⟩, A1070, H⟩ := H
                            try dsimp only at H
                            have A107 := Aside0.mk A1070
                            clear A1070
                            replace H := Option.bind_eq_some_iff.mp H
                            obtain ⟨⟨t585, t586⟩, A1080, H⟩ := H
                            try dsimp only at H
                            have A108 := Aside0.mk A1080
                            clear A1080
                            replace H := Option.bind_eq_some_iff.mp H
                            obtain ⟨⟨t587, t588⟩, A1090, H⟩ := H
                            try dsimp only at H
                            have A109 := Aside0.mk A1090
                            clear A1090
                            replace H := Option.bind_eq_some_iff.mp H
                            obtain ⟨⟨t589, t590⟩, A1100, H⟩ := H
                            try dsimp only at H
                            have A110 := Aside0.mk A1100
                            clear A1100
                            replace H := Option.bind_eq_some_iff.mp H
                            obtain ⟨⟨t591, t592⟩, A1110, H⟩ := H
                            try dsimp only at H
                            have A111 := Aside0.mk A1110
                            clear A1110
                            by_cases c112 : t582 = true
                            rotate_left
                            ·replace c112 := Bool.eq_false_iff.mpr c112
                             subst c112
                             rw [if_neg (show ¬ (false = true) by decide)] at H
                             obtain rfl := Option.some.inj H
                             cases hr
                            subst c112
                            rw [if_pos rfl] at H
                            by_cases c113 : t584 = true
                            rotate_left
                            ·replace c113 := Bool.eq_false_iff.mpr c113
                             subst c113
                             rw [if_neg (show ¬ (false = true) by decide)] at H
                             obtain rfl := Option.some.inj H
                             cases hr
                            subst c113
                            rw [if_pos rfl] at H
                            by_cases c114 : t586 = true
                            rotate_left
                            ·replace c114 := Bool.eq_false_iff.mpr c114
                             subst c114
                             rw [if_neg (show ¬ (false = true) by decide)] at H
                             obtain rfl := Option.some.inj H
                             cases hr
                            subst c114
                            rw [if_pos rfl] at H
                            by_cases c115 : t588 = true
                            rotate_left
                            ·replace c115 := Bool.eq_false_iff.mpr c115
                             subst c115
                             rw [if_neg (show ¬ (false = true) by decide)] at H
                             obtain rfl := Option.some.inj H
                             cases hr
                            subst c115
                            rw [if_pos rfl] at H
                            by_cases c116 : t590 = true
                            rotate_left
                            ·replace c116 := Bool.eq_false_iff.mpr c116
                             subst c116
                             rw [if_neg (show ¬ (false = true) by decide)] at H
                             obtain rfl := Option.some.inj H
                             cases hr
                            subst c116
                            rw [if_pos rfl] at H
                            by_cases c117 : t592 = true
                            rotate_left
                            ·replace c117 := Bool.eq_false_iff.mpr c117
                             subst c117
                             rw [if_neg (show ¬ (false = true) by decide)] at H
                             obtain rfl := Option.some.inj H
                             cases hr
                            subst c117
                            rw [if_pos rfl] at H
                            by_cases c118 : (wrap64 (t581 + t583)) = t585
                            rotate_left
                            ·rw [if_neg c118] at H
                             have c118b0 : ((wrap64 (t581 + t583)) == t585) = false := beq_eq_false_iff_ne.mpr c118
                             have c118b1 : ((wrap64 (t581 + t583)) != t585) = true := bne_iff_ne.mpr c118
                             obtain rfl := Option.some.inj H
                             cases hr
                            rw [if_pos c118] at H
                            have c118b0 : ((wrap64 (t581 + t583)) == t585) = true := beq_iff_eq.mpr c118
                            have c118b1 : ((wrap64 (t581 + t583)) != t585) = false := bne_eq_false_iff_eq.mpr c118
                            clear c118
                            by_cases c119 : t587 = 0
                            rotate_left
                            ·rw [if_neg c119] at H
                             have c119b0 : (t587 == 0) = false := beq_eq_false_iff_ne.mpr c119
                             have c119b1 : (t587 != 0) = true := bne_iff_ne.mpr c119
                             as_aux_lemma =>
                              have H' := Aside0.mk H
                              clear H
                              go_wp2_with (first | (go_at_call 21; (with_reducible refine (impl_MomentAbout.calls k9 _ _ t507 x43_9 t581 true _ (Sq.r HO_3) (Sq.n HO_3) A106.out).mono ?_); rintro e w136 ⟨rfl, hb⟩; replace HO_3 := Sq.T HO_3 hb; replace HO_4 := Sq.T HO_4 hb; replace HO_5 := Sq.T HO_5 hb; replace HB := Sq.S HB hb; clear hb) | (go_at_call 21; (with_reducible refine (impl_MomentAbout.calls k9 _ _ t508 x43_9 t583 true _ (Sq.r HO_4) (Sq.n HO_4) A107.out).mono ?_); rintro e w137 ⟨rfl, hb⟩; replace HO_3 := Sq.T HO_3 hb; replace HO_4 := Sq.T HO_4 hb; replace HO_5 := Sq.T HO_5 hb; replace HB := Sq.S HB hb; clear hb; obtain ⟨Ao138, co138, rfl⟩ := Kd.R_slice HO_5.out) | (go_at_call 21; (with_reducible refine (impl_MomentAbout.calls k9 _ _ t513 x43_9 t585 true _ (Sq.r HO_5) (Sq.n HO_5) A108.out).mono ?_); rintro e w139 ⟨rfl, hb⟩; replace HO_3 := Sq.T HO_3 hb; replace HO_4 := Sq.T HO_4 hb; replace HO_5 := Sq.T HO_5 hb; replace HB := Sq.S HB hb; clear hb) | (go_at_call 23; (with_reducible refine (impl_TipSide.calls k9 _ _ t507 x43_9 (wrap64 (x43_9 + 4)) t587 true _ ?side1 ?side2 A109.out).mono ?_); (case side1 => exact Sq.r HO_3); (case side2 => exact Sq.n HO_3); rintro e w140 ⟨rfl, hb⟩; replace HO_3 := Sq.T HO_3 hb; replace HO_4 := Sq.T HO_4 hb; replace HO_5 := Sq.T HO_5 hb; replace HB := Sq.S HB hb; clear hb) | (go_at_call 23; (with_reducible refine (impl_TipSide.calls k9 _ _ t508 x43_9 (wrap64 (x43_9 + 4)) t589 true _ ?side1 ?side2 A110.out).mono ?_); (case side1 => exact Sq.r HO_4); (case side2 => exact Sq.n HO_4); rintro e w141 ⟨rfl, hb⟩; replace HO_3 := Sq.T HO_3 hb; replace HO_4 := Sq.T HO_4 hb; replace HO_5 := Sq.T HO_5 hb; replace HB := Sq.S HB hb; clear hb) | (go_at_call 23; (with_reducible refine (impl_TipSide.calls k9 _ _ t513 x43_9 (wrap64 (x43_9 + 4)) t591 true _ ?side1 ?side2 A111.out).mono ?_); (case side1 => exact Sq.r HO_5); (case side2 => exact Sq.n HO_5); rintro e w142 ⟨rfl, hb⟩; replace HO_3 := Sq.T HO_3 hb; replace HO_4 := Sq.T HO_4 hb; replace HO_5 := Sq.T HO_5 hb; replace HB := Sq.S HB hb; clear hb))
                              repeat (go_quiet (first | (go_at_call 21; (with_reducible refine (impl_MomentAbout.calls k9 _ _ t507 x43_9 t581 true _ (Sq.r HO_3) (Sq.n HO_3) A106.out).mono ?_); rintro e w136 ⟨rfl, hb⟩; replace HO_3 := Sq.T HO_3 hb; replace HO_4 := Sq.T HO_4 hb; replace HO_5 := Sq.T HO_5 hb; replace HB := Sq.S HB hb; clear hb) | (go_at_call 21; (with_reducible refine (impl_MomentAbout.calls k9 _ _ t508 x43_9 t583 true _ (Sq.r HO_4) (Sq.n HO_4) A107.out).mono ?_); rintro e w137 ⟨rfl, hb⟩; replace HO_3 := Sq.T HO_3 hb; replace HO_4 := Sq.T HO_4 hb; replace HO_5 := Sq.T HO_5 hb; replace HB := Sq.S HB hb; clear hb; obtain ⟨Ao138, co138, rfl⟩ := Kd.R_slice HO_5.out) | (go_at_call 21; (with_reducible refine (impl_MomentAbout.calls k9 _ _ t513 x43_9 t585 true _ (Sq.r HO_5) (Sq.n HO_5) A108.out).mono ?_); rintro e w139 ⟨rfl, hb⟩; replace HO_3 := Sq.T HO_3 hb; replace HO_4 := Sq.T HO_4 hb; replace HO_5 := Sq.T HO_5 hb; replace HB := Sq.S HB hb; clear hb) | (go_at_call 23; (with_reducible refine (impl_TipSide.calls k9 _ _ t507 x43_9 (wrap64 (x43_9 + 4)) t587 true _ ?side1 ?side2 A109.out).mono ?_); (case side1 => exact Sq.r HO_3); (case side2 => exact Sq.n HO_3); rintro e w140 ⟨rfl, hb⟩; replace HO_3 := Sq.T HO_3 hb; replace HO_4 := Sq.T HO_4 hb; replace HO_5 := Sq.T HO_5 hb; replace HB := Sq.S HB hb; clear hb) | (go_at_call 23; (with_reducible refine (impl_TipSide.calls k9 _ _ t508 x43_9 (wrap64 (x43_9 + 4)) t589 true _ ?side1 ?side2 A110.out).mono ?_); (case side1 => exact Sq.r HO_4); (case side2 => exact Sq.n HO_4); rintro e w141 ⟨rfl, hb⟩; replace HO_3 := Sq.T HO_3 hb; replace HO_4 := Sq.T HO_4 hb; replace HO_5 := Sq.T HO_5 hb; replace HB := Sq.S HB hb; clear hb) | (go_at_call 23; (with_reducible refine (impl_TipSide.calls k9 _ _ t513 x43_9 (wrap64 (x43_9 + 4)) t591 true _ ?side1 ?side2 A111.out).mono ?_); (case side1 => exact Sq.r HO_5); (case side2 => exact Sq.n HO_5); rintro e w142 ⟨rfl, hb⟩; replace HO_3 := Sq.T HO_3 hb; replace HO_4 := Sq.T HO_4 hb; replace HO_5 := Sq.T HO_5 hb; replace HB := Sq.S HB hb; clear hb)); try go_wp2_with (first | (go_at_call 21; (with_reducible refine (impl_MomentAbout.calls k9 _ _ t507 x43_9 t581 true _ (Sq.r HO_3) (Sq.n HO_3) A106.out).mono ?_); rintro e w136 ⟨rfl, hb⟩; replace HO_3 := Sq.T HO_3 hb; replace HO_4 := Sq.T HO_4 hb; replace HO_5 := Sq.T HO_5 hb; replace HB := Sq.S HB hb; clear hb) | (go_at_call 21; (with_reducible refine (impl_MomentAbout.calls k9 _ _ t508 x43_9 t583 true _ (Sq.r HO_4) (Sq.n HO_4) A107.out).mono ?_); rintro e w137 ⟨rfl, hb⟩; replace HO_3 := Sq.T HO_3 hb; replace HO_4 := Sq.T HO_4 hb; replace HO_5 := Sq.T HO_5 hb; replace HB := Sq.S HB hb; clear hb; obtain ⟨Ao138, co138, rfl⟩ := Kd.R_slice HO_5.out) | (go_at_call 21; (with_reducible refine (impl_MomentAbout.calls k9 _ _ t513 x43_9 t585 true _ (Sq.r HO_5) (Sq.n HO_5) A108.out).mono ?_); rintro e w139 ⟨rfl, hb⟩; replace HO_3 := Sq.T HO_3 hb; replace HO_4 := Sq.T HO_4 hb; replace HO_5 := Sq.T HO_5 hb; replace HB := Sq.S HB hb; clear hb) | (go_at_call 23; (with_reducible refine (impl_TipSide.calls k9 _ _ t507 x43_9 (wrap64 (x43_9 + 4)) t587 true _ ?side1 ?side2 A109.out).mono ?_); (case side1 => exact Sq.r HO_3); (case side2 => exact Sq.n HO_3); rintro e w140 ⟨rfl, hb⟩; replace HO_3 := Sq.T HO_3 hb; replace HO_4 := Sq.T HO_4 hb; replace HO_5 := Sq.T HO_5 hb; replace HB := Sq.S HB hb; clear hb) | (go_at_call 23; (with_reducible refine (impl_TipSide.calls k9 _ _ t508 x43_9 (wrap64 (x43_9 + 4)) t589 true _ ?side1 ?side2 A110.out).mono ?_); (case side1 => exact Sq.r HO_4); (case side2 => exact Sq.n HO_4); rintro e w141 ⟨rfl, hb⟩; replace HO_3 := Sq.T HO_3 hb; replace HO_4 := Sq.T HO_4 hb; replace HO_5 := Sq.T HO_5 hb; replace HB := Sq.S HB hb; clear hb) | (go_at_call 23; (with_reducible refine (impl_TipSide.calls k9 _ _ t513 x43_9 (wrap64 (x43_9 + 4)) t591 true _ ?side1 ?side2 A111.out).mono ?_); (case side1 => exact Sq.r HO_5); (case side2 => exact Sq.n HO_5); rintro e w142 ⟨rfl, hb⟩; replace HO_3 := Sq.T HO_3 hb; replace HO_4 := Sq.T HO_4 hb; replace HO_5 := Sq.T HO_5 hb; replace HB := Sq.S HB hb; clear hb)))
                              go_roundg k9
                              case measure => have := HJ6.out; have := HJ20.out; have := HJ33.out; have := HJ46.out; have := HJ53.out; have := HJ64.out; have := HJ73.out; have := HJ90.out; have := HK9.out; omega
                              case rel => exact ⟨(wrap64 (x43_9 + 3)), (by first | rfl | (simp; done) | (simp [*]; done) | (simp [bne]; done)), H', ⟨by have := HJ6.out; have := HJ20.out; have := HJ33.out; have := HJ46.out; have := HJ53.out; have := HJ64.out; have := HJ73.out; have := HJ90.out; have := HK9.out; omega⟩, ⟨by (with_reducible repeat (first | apply Kd.R_alloc | apply Kd.R_drewN | apply Kd.R_drew)); exact HO_3.out⟩, ⟨by (with_reducible repeat (first | apply Kd.R_alloc | apply Kd.R_drewN | apply Kd.R_drew)); exact HO_4.out⟩, ⟨by (with_reducible repeat (first | apply Kd.R_alloc | apply Kd.R_drewN | apply Kd.R_drew)); exact HO_5.out⟩, ⟨Sq.B HB⟩⟩
                            rw [if_pos c119] at H
                            have c119b0 : (t587 == 0) = true := beq_iff_eq.mpr c119
                            have c119b1 : (t587 != 0) = false := bne_eq_false_iff_eq.mpr c119
                            clear c119
                            by_cases c120 : t589 = 0
                            rotate_left
                            ·rw [if_neg c120] at H
                             have c120b0 : (t589 == 0) = false := beq_eq_false_iff_ne.mpr c120
                             have c120b1 : (t589 != 0) = true := bne_iff_ne.mpr c120
                             as_aux_lemma =>
                              have H' := Aside0.mk H
                              clear H
                              go_wp2_with (first | (go_at_call 21; (with_reducible refine (impl_MomentAbout.calls k9 _ _ t507 x43_9 t581 true _ (Sq.r HO_3) (Sq.n HO_3) A106.out).mono ?_); rintro e w129 ⟨rfl, hb⟩; replace HO_3 := Sq.T HO_3 hb; replace HO_4 := Sq.T HO_4 hb; replace HO_5 := Sq.T HO_5 hb; replace HB := Sq.S HB hb; clear hb) | (go_at_call 21; (with_reducible refine (impl_MomentAbout.calls k9 _ _ t508 x43_9 t583 true _ (Sq.r HO_4) (Sq.n HO_4) A107.out).mono ?_); rintro e w130 ⟨rfl, hb⟩; replace HO_3 := Sq.T HO_3 hb; replace HO_4 := Sq.T HO_4 hb; replace HO_5 := Sq.T HO_5 hb; replace HB := Sq.S HB hb; clear hb; obtain ⟨Ao131, co131, rfl⟩ := Kd.R_slice HO_5.out) | (go_at_call 21; (with_reducible refine (impl_MomentAbout.calls k9 _ _ t513 x43_9 t585 true _ (Sq.r HO_5) (Sq.n HO_5) A108.out).mono ?_); rintro e w132 ⟨rfl, hb⟩; replace HO_3 := Sq.T HO_3 hb; replace HO_4 := Sq.T HO_4 hb; replace HO_5 := Sq.T HO_5 hb; replace HB := Sq.S HB hb; clear hb) | (go_at_call 23; (with_reducible refine (impl_TipSide.calls k9 _ _ t507 x43_9 (wrap64 (x43_9 + 4)) t587 true _ ?side1 ?side2 A109.out).mono ?_); (case side1 => exact Sq.r HO_3); (case side2 => exact Sq.n HO_3); rintro e w133 ⟨rfl, hb⟩; replace HO_3 := Sq.T HO_3 hb; replace HO_4 := Sq.T HO_4 hb; replace HO_5 := Sq.T HO_5 hb; replace HB := Sq.S HB hb; clear hb) | (go_at_call 23; (with_reducible refine (impl_TipSide.calls k9 _ _ t508 x43_9 (wrap64 (x43_9 + 4)) t589 true _ ?side1 ?side2 A110.out).mono ?_); (case side1 => exact Sq.r HO_4); (case side2 => exact Sq.n HO_4); rintro e w134 ⟨rfl, hb⟩; replace HO_3 := Sq.T HO_3 hb; replace HO_4 := Sq.T HO_4 hb; replace HO_5 := Sq.T HO_5 hb; replace HB := Sq.S HB hb; clear hb) | (go_at_call 23; (with_reducible refine (impl_TipSide.calls k9 _ _ t513 x43_9 (wrap64 (x43_9 + 4)) t591 true _ ?side1 ?side2 A111.out).mono ?_); (case side1 => exact Sq.r HO_5); (case side2 => exact Sq.n HO_5); rintro e w135 ⟨rfl, hb⟩; replace HO_3 := Sq.T HO_3 hb; replace HO_4 := Sq.T HO_4 hb; replace HO_5 := Sq.T HO_5 hb; replace HB := Sq.S HB hb; clear hb))
                              repeat (go_quiet (first | (go_at_call 21; (with_reducible refine (impl_MomentAbout.calls k9 _ _ t507 x43_9 t581 true _ (Sq.r HO_3) (Sq.n HO_3) A106.out).mono ?_); rintro e w129 ⟨rfl, hb⟩; replace HO_3 := Sq.T HO_3 hb; replace HO_4 := Sq.T HO_4 hb; replace HO_5 := Sq.T HO_5 hb; replace HB := Sq.S HB hb; clear hb) | (go_at_call 21; (with_reducible refine (impl_MomentAbout.calls k9 _ _ t508 x43_9 t583 true _ (Sq.r HO_4) (Sq.n HO_4) A107.out).mono ?_); rintro e w130 ⟨rfl, hb⟩; replace HO_3 := Sq.T HO_3 hb; replace HO_4 := Sq.T HO_4 hb; replace HO_5 := Sq.T HO_5 hb; replace HB := Sq.S HB hb; clear hb; obtain ⟨Ao131, co131, rfl⟩ := Kd.R_slice HO_5.out) | (go_at_call 21; (with_reducible refine (impl_MomentAbout.calls k9 _ _ t513 x43_9 t585 true _ (Sq.r HO_5) (Sq.n HO_5) A108.out).mono ?_); rintro e w132 ⟨rfl, hb⟩; replace HO_3 := Sq.T HO_3 hb; replace HO_4 := Sq.T HO_4 hb; replace HO_5 := Sq.T HO_5 hb; replace HB := Sq.S HB hb; clear hb) | (go_at_call 23; (with_reducible refine (impl_TipSide.calls k9 _ _ t507 x43_9 (wrap64 (x43_9 + 4)) t587 true _ ?side1 ?side2 A109.out).mono ?_); (case side1 => exact Sq.r HO_3); (case side2 => exact Sq.n HO_3); rintro e w133 ⟨rfl, hb⟩; replace HO_3 := Sq.T HO_3 hb; replace HO_4 := Sq.T HO_4 hb; replace HO_5 := Sq.T HO_5 hb; replace HB := Sq.S HB hb; clear hb) | (go_at_call 23; (with_reducible refine (impl_TipSide.calls k9 _ _ t508 x43_9 (wrap64 (x43_9 + 4)) t589 true _ ?side1 ?side2 A110.out).mono ?_); (case side1 => exact Sq.r HO_4); (case side2 => exact Sq.n HO_4); rintro e w134 ⟨rfl, hb⟩; replace HO_3 := Sq.T HO_3 hb; replace HO_4 := Sq.T HO_4 hb; replace HO_5 := Sq.T HO_5 hb; replace HB := Sq.S HB hb; clear hb) | (go_at_call 23; (with_reducible refine (impl_TipSide.calls k9 _ _ t513 x43_9 (wrap64 (x43_9 + 4)) t591 true _ ?side1 ?side2 A111.out).mono ?_); (case side1 => exact Sq.r HO_5); (case side2 => exact Sq.n HO_5); rintro e w135 ⟨rfl, hb⟩; replace HO_3 := Sq.T HO_3 hb; replace HO_4 := Sq.T HO_4 hb; replace HO_5 := Sq.T HO_5 hb; replace HB := Sq.S HB hb; clear hb)); try go_wp2_with (first | (go_at_call 21; (with_reducible refine (impl_MomentAbout.calls k9 _ _ t507 x43_9 t581 true _ (Sq.r HO_3) (Sq.n HO_3) A106.out).mono ?_); rintro e w129 ⟨rfl, hb⟩; replace HO_3 := Sq.T HO_3 hb; replace HO_4 := Sq.T HO_4 hb; replace HO_5 := Sq.T HO_5 hb; replace HB := Sq.S HB hb; clear hb) | (go_at_call 21; (with_reducible refine (impl_MomentAbout.calls k9 _ _ t508 x43_9 t583 true _ (Sq.r HO_4) (Sq.n HO_4) A107.out).mono ?_); rintro e w130 ⟨rfl, hb⟩; replace HO_3 := Sq.T HO_3 hb; replace HO_4 := Sq.T HO_4 hb; replace HO_5 := Sq.T HO_5 hb; replace HB := Sq.S HB hb; clear hb; obtain ⟨Ao131, co131, rfl⟩ := Kd.R_slice HO_5.out) | (go_at_call 21; (with_reducible refine (impl_MomentAbout.calls k9 _ _ t513 x43_9 t585 true _ (Sq.r HO_5) (Sq.n HO_5) A108.out).mono ?_); rintro e w132 ⟨rfl, hb⟩; replace HO_3 := Sq.T HO_3 hb; replace HO_4 := Sq.T HO_4 hb; replace HO_5 := Sq.T HO_5 hb; replace HB := Sq.S HB hb; clear hb) | (go_at_call 23; (with_reducible refine (impl_TipSide.calls k9 _ _ t507 x43_9 (wrap64 (x43_9 + 4)) t587 true _ ?side1 ?side2 A109.out).mono ?_); (case side1 => exact Sq.r HO_3); (case side2 => exact Sq.n HO_3); rintro e w133 ⟨rfl, hb⟩; replace HO_3 := Sq.T HO_3 hb; replace HO_4 := Sq.T HO_4 hb; replace HO_5 := Sq.T HO_5 hb; replace HB := Sq.S HB hb; clear hb) | (go_at_call 23; (with_reducible refine (impl_TipSide.calls k9 _ _ t508 x43_9 (wrap64 (x43_9 + 4)) t589 true _ ?side1 ?side2 A110.out).mono ?_); (case side1 => exact Sq.r HO_4); (case side2 => exact Sq.n HO_4); rintro e w134 ⟨rfl, hb⟩; replace HO_3 := Sq.T HO_3 hb; replace HO_4 := Sq.T HO_4 hb; replace HO_5 := Sq.T HO_5 hb; replace HB := Sq.S HB hb; clear hb) | (go_at_call 23; (with_reducible refine (impl_TipSide.calls k9 _ _ t513 x43_9 (wrap64 (x43_9 + 4)) t591 true _ ?side1 ?side2 A111.out).mono ?_); (case side1 => exact Sq.r HO_5); (case side2 => exact Sq.n HO_5); rintro e w135 ⟨rfl, hb⟩; replace HO_3 := Sq.T HO_3 hb; replace HO_4 := Sq.T HO_4 hb; replace HO_5 := Sq.T HO_5 hb; replace HB := Sq.S HB hb; clear hb)))
                              go_roundg k9
                              case measure => have := HJ6.out; have := HJ20.out; have := HJ33.out; have := HJ46.out; have := HJ53.out; have := HJ64.out; have := HJ73.out; have := HJ90.out; have := HK9.out; omega
                              case rel => exact ⟨(wrap64 (x43_9 + 3)), (by first | rfl | (simp; done) | (simp [*]; done) | (simp [bne]; done)), H', ⟨by have := HJ6.out; have := HJ20.out; have := HJ33.out; have := HJ46.out; have := HJ53.out; have := HJ64.out; have := HJ73.out; have := HJ90.out; have := HK9.out; omega⟩, ⟨by (with_reducible repeat (first | apply Kd.R_alloc | apply Kd.R_drewN | apply Kd.R_drew)); exact HO_3.out⟩, ⟨by (with_reducible repeat (first | apply Kd.R_alloc | apply Kd.R_drewN | apply Kd.R_drew)); exact HO_4.out⟩, ⟨by (with_reducible repeat (first | apply Kd.R_alloc | apply Kd.R_drewN | apply Kd.R_drew)); exact HO_5.out⟩, ⟨Sq.B HB⟩⟩
                            rw [if_pos c120] at H
                            have c120b0 : (t589 == 0) = true := beq_iff_eq.mpr c120
                            have c120b1 : (t589 != 0) = false := bne_eq_false_iff_eq.mpr c120
                            clear c120
                            by_cases c121 : t591 = 0
                            rotate_left
                            ·rw [if_neg c121] at H
                             have c121b0 : (t591 == 0) = false := beq_eq_false_iff_ne.mpr c121
                             have c121b1 : (t591 != 0) = true := bne_iff_ne.mpr c121
                             obtain rfl := Option.some.inj H
                             cases hr
                            rw [if_pos c121] at H
                            have c121b0 : (t591 == 0) = true := beq_iff_eq.mpr c121
                            have c121b1 : (t591 != 0) = false := bne_eq_false_iff_eq.mpr c121
                            clear c121
                            as_aux_lemma =>
                             have H' := Aside0.mk H
                             clear H
                             go_wp2_with (first | (go_at_call 21; (with_reducible refine (impl_MomentAbout.calls k9 _ _ t507 x43_9 t581 true _ (Sq.r HO_3) (Sq.n HO_3) A106.out).mono ?_); rintro e w122 ⟨rfl, hb⟩; replace HO_3 := Sq.T HO_3 hb; replace HO_4 := Sq.T HO_4 hb; replace HO_5 := Sq.T HO_5 hb; replace HB := Sq.S HB hb; clear hb) | (go_at_call 21; (with_reducible refine (impl_MomentAbout.calls k9 _ _ t508 x43_9 t583 true _ (Sq.r HO_4) (Sq.n HO_4) A107.out).mono ?_); rintro e w123 ⟨rfl, hb⟩; replace HO_3 := Sq.T HO_3 hb; replace HO_4 := Sq.T HO_4 hb; replace HO_5 := Sq.T HO_5 hb; replace HB := Sq.S HB hb; clear hb; obtain ⟨Ao124, co124, rfl⟩ := Kd.R_slice HO_5.out) | (go_at_call 21; (with_reducible refine (impl_MomentAbout.calls k9 _ _ t513 x43_9 t585 true _ (Sq.r HO_5) (Sq.n HO_5) A108.out).mono ?_); rintro e w125 ⟨rfl, hb⟩; replace HO_3 := Sq.T HO_3 hb; replace HO_4 := Sq.T HO_4 hb; replace HO_5 := Sq.T HO_5 hb; replace HB := Sq.S HB hb; clear hb) | (go_at_call 23; (with_reducible refine (impl_TipSide.calls k9 _ _ t507 x43_9 (wrap64 (x43_9 + 4)) t587 true _ ?side1 ?side2 A109.out).mono ?_); (case side1 => exact Sq.r HO_3); (case side2 => exact Sq.n HO_3); rintro e w126 ⟨rfl, hb⟩; replace HO_3 := Sq.T HO_3 hb; replace HO_4 := Sq.T HO_4 hb; replace HO_5 := Sq.T HO_5 hb; replace HB := Sq.S HB hb; clear hb) | (go_at_call 23; (with_reducible refine (impl_TipSide.calls k9 _ _ t508 x43_9 (wrap64 (x43_9 + 4)) t589 true _ ?side1 ?side2 A110.out).mono ?_); (case side1 => exact Sq.r HO_4); (case side2 => exact Sq.n HO_4); rintro e w127 ⟨rfl, hb⟩; replace HO_3 := Sq.T HO_3 hb; replace HO_4 := Sq.T HO_4 hb; replace HO_5 := Sq.T HO_5 hb; replace HB := Sq.S HB hb; clear hb) | (go_at_call 23; (with_reducible refine (impl_TipSide.calls k9 _ _ t513 x43_9 (wrap64 (x43_9 + 4)) t591 true _ ?side1 ?side2 A111.out).mono ?_); (case side1 => exact Sq.r HO_5); (case side2 => exact Sq.n HO_5); rintro e w128 ⟨rfl, hb⟩; replace HO_3 := Sq.T HO_3 hb; replace HO_4 := Sq.T HO_4 hb; replace HO_5 := Sq.T HO_5 hb; replace HB := Sq.S HB hb; clear hb))
                             repeat (go_quiet (first | (go_at_call 21; (with_reducible refine (impl_MomentAbout.calls k9 _ _ t507 x43_9 t581 true _ (Sq.r HO_3) (Sq.n HO_3) A106.out).mono ?_); rintro e w122 ⟨rfl, hb⟩; replace HO_3 := Sq.T HO_3 hb; replace HO_4 := Sq.T HO_4 hb; replace HO_5 := Sq.T HO_5 hb; replace HB := Sq.S HB hb; clear hb) | (go_at_call 21; (with_reducible refine (impl_MomentAbout.calls k9 _ _ t508 x43_9 t583 true _ (Sq.r HO_4) (Sq.n HO_4) A107.out).mono ?_); rintro e w123 ⟨rfl, hb⟩; replace HO_3 := Sq.T HO_3 hb; replace HO_4 := Sq.T HO_4 hb; replace HO_5 := Sq.T HO_5 hb; replace HB := Sq.S HB hb; clear hb; obtain ⟨Ao124, co124, rfl⟩ := Kd.R_slice HO_5.out) | (go_at_call 21; (with_reducible refine (impl_MomentAbout.calls k9 _ _ t513 x43_9 t585 true _ (Sq.r HO_5) (Sq.n HO_5) A108.out).mono ?_); rintro e w125 ⟨rfl, hb⟩; replace HO_3 := Sq.T HO_3 hb; replace HO_4 := Sq.T HO_4 hb; replace HO_5 := Sq.T HO_5 hb; replace HB := Sq.S HB hb; clear hb) | (go_at_call 23; (with_reducible refine (impl_TipSide.calls k9 _ _ t507 x43_9 (wrap64 (x43_9 + 4)) t587 true _ ?side1 ?side2 A109.out).mono ?_); (case side1 => exact Sq.r HO_3); (case side2 => exact Sq.n HO_3); rintro e w126 ⟨rfl, hb⟩; replace HO_3 := Sq.T HO_3 hb; replace HO_4 := Sq.T HO_4 hb; replace HO_5 := Sq.T HO_5 hb; replace HB := Sq.S HB hb; clear hb) | (go_at_call 23; (with_reducible refine (impl_TipSide.calls k9 _ _ t508 x43_9 (wrap64 (x43_9 + 4)) t589 true _ ?side1 ?side2 A110.out).mono ?_); (case side1 => exact Sq.r HO_4); (case side2 => exact Sq.n HO_4); rintro e w127 ⟨rfl, hb⟩; replace HO_3 := Sq.T HO_3 hb; replace HO_4 := Sq.T HO_4 hb; replace HO_5 := Sq.T HO_5 hb; replace HB := Sq.S HB hb; clear hb) | (go_at_call 23; (with_reducible refine (impl_TipSide.calls k9 _ _ t513 x43_9 (wrap64 (x43_9 + 4)) t591 true _ ?side1 ?side2 A111.out).mono ?_); (case side1 => exact Sq.r HO_5); (case side2 => exact Sq.n HO_5); rintro e w128 ⟨rfl, hb⟩; replace HO_3 := Sq.T HO_3 hb; replace HO_4 := Sq.T HO_4 hb; replace HO_5 := Sq.T HO_5 hb; replace HB := Sq.S HB hb; clear hb)); try go_wp2_with (first | (go_at_call 21; (with_reducible refine (impl_MomentAbout.calls k9 _ _ t507 x43_9 t581 true _ (Sq.r HO_3) (Sq.n HO_3) A106.out).mono ?_); rintro e w122 ⟨rfl, hb⟩; replace HO_3 := Sq.T HO_3 hb; replace HO_4 := Sq.T HO_4 hb; replace HO_5 := Sq.T HO_5 hb; replace HB := Sq.S HB hb; clear hb) | (go_at_call 21; (with_reducible refine (impl_MomentAbout.calls k9 _ _ t508 x43_9 t583 true _ (Sq.r HO_4) (Sq.n HO_4) A107.out).mono ?_); rintro e w123 ⟨rfl, hb⟩; replace HO_3 := Sq.T HO_3 hb; replace HO_4 := Sq.T HO_4 hb; replace HO_5 := Sq.T HO_5 hb; replace HB := Sq.S HB hb; clear hb; obtain ⟨Ao124, co124, rfl⟩ := Kd.R_slice HO_5.out) | (go_at_call 21; (with_reducible refine (impl_MomentAbout.calls k9 _ _ t513 x43_9 t585 true _ (Sq.r HO_5) (Sq.n HO_5) A108.out).mono ?_); rintro e w125 ⟨rfl, hb⟩; replace HO_3 := Sq.T HO_3 hb; replace HO_4 := Sq.T HO_4 hb; replace HO_5 := Sq.T HO_5 hb; replace HB := Sq.S HB hb; clear hb) | (go_at_call 23; (with_reducible refine (impl_TipSide.calls k9 _ _ t507 x43_9 (wrap64 (x43_9 + 4)) t587 true _ ?side1 ?side2 A109.out).mono ?_); (case side1 => exact Sq.r HO_3); (case side2 => exact Sq.n HO_3); rintro e w126 ⟨rfl, hb⟩; replace HO_3 := Sq.T HO_3 hb; replace HO_4 := Sq.T HO_4 hb; replace HO_5 := Sq.T HO_5 hb; replace HB := Sq.S HB hb; clear hb) | (go_at_call 23; (with_reducible refine (impl_TipSide.calls k9 _ _ t508 x43_9 (wrap64 (x43_9 + 4)) t589 true _ ?side1 ?side2 A110.out).mono ?_); (case side1 => exact Sq.r HO_4); (case side2 => exact Sq.n HO_4); rintro e w127 ⟨rfl, hb⟩; replace HO_3 := Sq.T HO_3 hb; replace HO_4 := Sq.T HO_4 hb; replace HO_5 := Sq.T HO_5 hb; replace HB := Sq.S HB hb; clear hb) | (go_at_call 23; (with_reducible refine (impl_TipSide.calls k9 _ _ t513 x43_9 (wrap64 (x43_9 + 4)) t591 true _ ?side1 ?side2 A111.out).mono ?_); (case side1 => exact Sq.r HO_5); (case side2 => exact Sq.n HO_5); rintro e w128 ⟨rfl, hb⟩; replace HO_3 := Sq.T HO_3 hb; replace HO_4 := Sq.T HO_4 hb; replace HO_5 := Sq.T HO_5 hb; replace HB := Sq.S HB hb; clear hb)))
                             go_roundg k9
                             case measure => have := HJ6.out; have := HJ20.out; have := HJ33.out; have := HJ46.out; have := HJ53.out; have := HJ64.out; have := HJ73.out; have := HJ90.out; have := HK9.out; omega
                             case rel => exact ⟨(wrap64 (x43_9 + 3)), (by first | rfl | (simp; done) | (simp [*]; done) | (simp [bne]; done)), H', ⟨by have := HJ6.out; have := HJ20.out; have := HJ33.out; have := HJ46.out; have := HJ53.out; have := HJ64.out; have := HJ73.out; have := HJ90.out; have := HK9.out; omega⟩, ⟨by (with_reducible repeat (first | apply Kd.R_alloc | apply Kd.R_drewN | apply Kd.R_drew)); exact HO_3.out⟩, ⟨by (with_reducible repeat (first | apply Kd.R_alloc | apply Kd.R_drewN | apply Kd.R_drew)); exact HO_4.out⟩, ⟨by (with_reducible repeat (first | apply Kd.R_alloc | apply Kd.R_drewN | apply Kd.R_drew)); exact HO_5.out⟩, ⟨Sq.B HB⟩⟩
end Go.Proofs.YthgfndbbbhbkeaaGreatDoor.PFnRows
