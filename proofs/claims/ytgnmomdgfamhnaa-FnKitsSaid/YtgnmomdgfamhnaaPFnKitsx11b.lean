-- Made by wip/pr.py of this repo over the kit's print (some contracts by hand).
import Derived.Test.YtgnmomdgfamhnaaSq
import Derived.Test.YtgnmomdgfamhnaaPFnKitsx0
import Derived.Test.YtgnmomdgfamhnaaPFnKitsx2
import Derived.Test.YtgnmomdgfamhnaaPFnKitsx3
import Derived.Test.YtgnmomdgfamhnaaPFnKitsx4
import Derived.Test.YtgnmomdgfamhnaaPFnKitsx5
import Derived.Test.YtgnmomdgfamhnaaPFnKitsx6
import Derived.Test.YtgnmomdgfamhnaaPFnKitsx7
import Derived.Test.YtgnmomdgfamhnaaPFnKitsx8
import Derived.Test.YtgnmomdgfamhnaaPFnKitsx9
import Derived.Test.YtgnmomdgfamhnaaPFnKitsx10
import Derived.Test.YtgnmomdgfamhnaaPFnKitsx11
namespace Go.Proofs.Ytgnmomdgfamhnaa.PFnKits
open Go.RowKit Go.Proofs.YtgnmomdgfamhnaaW.PrintWords Go.Proofs.YtgnmomdgfamhnaaW.PrintLast Go.Proofs.YtgnmomdgfamhnaaW.PrintMore
attribute [local go_sem] max2_int min2_int max_two min_two max_three min_three max_four min_four   -- for this text's walks alone
set_option linter.unusedVariables false
set_option linter.unusedSimpArgs false
set_option maxHeartbeats 8000000 in
set_option maxRecDepth 100000 in
theorem laws_FnKits.calls (k : Nat) (A0 : Option Addr) (c0 : Nat) (l0 : List Int) (r : Bool) (w : World) (hr0 : Kd.C (Kd.int .u8) w A0 l0.length l0) (hc0 : l0.length ≤ c0) (h : laws_FnKits.f k l0 = some r) (hr : r = true) :
  Calls Try.prog 4 #[.slice A0 l0.length c0] w fun e w' => e = .returned (.bool r) ∧ Below w.heap.size w w' := by
 have HR0 := Aside0.mk hr0
 have HC0 := Aside0.mk hc0
 clear hr0 hc0
 have HB := Aside0.mk (Below.refl w.heap.size w)
 have H : ((laws_vBig.f l0).bind fun t400 => (if t400 = true then (some true) else ((spec_DrawHowToWeigh.f k l0).bind fun bt401 => ((impl_HowToWeigh.f k bt401.1 bt401.2).bind fun bt405 => ((spec_HowToWeigh.f k bt401.1 bt401.2).bind fun bt409 => ((impl_WeighOne.f k bt401.1).bind fun bt413 => ((spec_WeighOne.f k bt401.1).bind fun bt417 => ((impl_WeighTwo.f k bt401.1).bind fun bt421 => ((spec_WeighTwo.f k bt401.1).bind fun bt425 => ((laws_vCut.f l0 1).bind fun t429 => ((spec_DrawKitRange.f k t429).bind fun bt432 => ((impl_KitRange.f k bt432.1 bt432.2).bind fun bt436 => ((spec_KitRange.f k bt432.1 bt432.2).bind fun bt438 => ((laws_vCut.f l0 2).bind fun t440 => ((spec_DrawThreesKit.f t440).bind fun t443 => ((impl_ThreesKit.f k t443).bind fun bt444 => ((spec_ThreesKit.f k t443).bind fun bt448 => ((impl_TwosKit.f k t443).bind fun bt452 => ((spec_TwosKit.f k t443).bind fun bt456 => ((spec_DrawPanRow.f k l0).bind fun bt460 => ((impl_PanRow.f k bt460.1 bt460.2.1 bt460.2.2).bind fun bt467 => ((spec_PanRow.f k bt460.1 bt460.2.1 bt460.2.2).bind fun bt471 => (if (bt405.2 != bt409.2) = true then (laws_FnKits.j0 k bt401.1 bt401.2 bt405.1 bt405.2 bt413.1 bt413.2 bt421.1 bt432.1 bt432.2 bt436.1 bt436.2 t443 bt444.1 bt444.2 bt452.1 bt452.2 bt460.1 bt460.2.1 bt460.2.2 bt467.1 bt467.2 true) else ((laws_vInts.f k bt405.1 bt409.1).bind fun t475 => (if t475 = true then (if (bt413.2 != bt417.2) = true then (laws_FnKits.j0 k bt401.1 bt401.2 bt405.1 bt405.2 bt413.1 bt413.2 bt421.1 bt432.1 bt432.2 bt436.1 bt436.2 t443 bt444.1 bt444.2 bt452.1 bt452.2 bt460.1 bt460.2.1 bt460.2.2 bt467.1 bt467.2 true) else ((laws_vInts.f k bt413.1 bt417.1).bind fun t476 => (if t476 = true then (if (bt421.2 != bt425.2) = true then (laws_FnKits.j0 k bt401.1 bt401.2 bt405.1 bt405.2 bt413.1 bt413.2 bt421.1 bt432.1 bt432.2 bt436.1 bt436.2 t443 bt444.1 bt444.2 bt452.1 bt452.2 bt460.1 bt460.2.1 bt460.2.2 bt467.1 bt467.2 true) else ((laws_vInts.f k bt421.1 bt425.1).bind fun t477 => (if t477 = true then (if bt436.1 = bt438.1 then (if (bt436.2 != bt438.2) = true then (laws_FnKits.j0 k bt401.1 bt401.2 bt405.1 bt405.2 bt413.1 bt413.2 bt421.1 bt432.1 bt432.2 bt436.1 bt436.2 t443 bt444.1 bt444.2 bt452.1 bt452.2 bt460.1 bt460.2.1 bt460.2.2 bt467.1 bt467.2 true) else (if (bt444.2 != bt448.2) = true then (laws_FnKits.j0 k bt401.1 bt401.2 bt405.1 bt405.2 bt413.1 bt413.2 bt421.1 bt432.1 bt432.2 bt436.1 bt436.2 t443 bt444.1 bt444.2 bt452.1 bt452.2 bt460.1 bt460.2.1 bt460.2.2 bt467.1 bt467.2 true) else ((laws_vInts.f k bt444.1 bt448.1).bind fun t478 => (if t478 = true then (if (bt452.2 != bt456.2) = true then (laws_FnKits.j0 k bt401.1 bt401.2 bt405.1 bt405.2 bt413.1 bt413.2 bt421.1 bt432.1 bt432.2 bt436.1 bt436.2 t443 bt444.1 bt444.2 bt452.1 bt452.2 bt460.1 bt460.2.1 bt460.2.2 bt467.1 bt467.2 true) else ((laws_vInts.f k bt452.1 bt456.1).bind fun t479 => (if t479 = true then (if (bt467.2 != bt471.2) = true then (laws_FnKits.j0 k bt401.1 bt401.2 bt405.1 bt405.2 bt413.1 bt413.2 bt421.1 bt432.1 bt432.2 bt436.1 bt436.2 t443 bt444.1 bt444.2 bt452.1 bt452.2 bt460.1 bt460.2.1 bt460.2.2 bt467.1 bt467.2 true) else ((laws_vRow.f k bt467.1 bt471.1).bind fun t480 => (if t480 = true then ((impl_IsKit.f k bt401.1).bind fun t481 => ((spec_IsKit.f k bt401.1).bind fun t482 => (if (t481 != t482) = true then (laws_FnKits.j0 k bt401.1 bt401.2 bt405.1 bt405.2 bt413.1 bt413.2 bt421.1 bt432.1 bt432.2 bt436.1 bt436.2 t443 bt444.1 bt444.2 bt452.1 bt452.2 bt460.1 bt460.2.1 bt460.2.2 bt467.1 bt467.2 true) else ((impl_IsKit.f k bt401.1).bind fun t483 => (if (bt413.2 != t483) = true then (laws_FnKits.j0 k bt401.1 bt401.2 bt405.1 bt405.2 bt413.1 bt413.2 bt421.1 bt432.1 bt432.2 bt436.1 bt436.2 t443 bt444.1 bt444.2 bt452.1 bt452.2 bt460.1 bt460.2.1 bt460.2.2 bt467.1 bt467.2 true) else (laws_FnKits.j0 k bt401.1 bt401.2 bt405.1 bt405.2 bt413.1 bt413.2 bt421.1 bt432.1 bt432.2 bt436.1 bt436.2 t443 bt444.1 bt444.2 bt452.1 bt452.2 bt460.1 bt460.2.1 bt460.2.2 bt467.1 bt467.2 (bt413.2 != bt421.2))))))) else (laws_FnKits.j0 k bt401.1 bt401.2 bt405.1 bt405.2 bt413.1 bt413.2 bt421.1 bt432.1 bt432.2 bt436.1 bt436.2 t443 bt444.1 bt444.2 bt452.1 bt452.2 bt460.1 bt460.2.1 bt460.2.2 bt467.1 bt467.2 true)))) else (laws_FnKits.j0 k bt401.1 bt401.2 bt405.1 bt405.2 bt413.1 bt413.2 bt421.1 bt432.1 bt432.2 bt436.1 bt436.2 t443 bt444.1 bt444.2 bt452.1 bt452.2 bt460.1 bt460.2.1 bt460.2.2 bt467.1 bt467.2 true)))) else (laws_FnKits.j0 k bt401.1 bt401.2 bt405.1 bt405.2 bt413.1 bt413.2 bt421.1 bt432.1 bt432.2 bt436.1 bt436.2 t443 bt444.1 bt444.2 bt452.1 bt452.2 bt460.1 bt460.2.1 bt460.2.2 bt467.1 bt467.2 true))))) else (laws_FnKits.j0 k bt401.1 bt401.2 bt405.1 bt405.2 bt413.1 bt413.2 bt421.1 bt432.1 bt432.2 bt436.1 bt436.2 t443 bt444.1 bt444.2 bt452.1 bt452.2 bt460.1 bt460.2.1 bt460.2.2 bt467.1 bt467.2 true)) else (laws_FnKits.j0 k bt401.1 bt401.2 bt405.1 bt405.2 bt413.1 bt413.2 bt421.1 bt432.1 bt432.2 bt436.1 bt436.2 t443 bt444.1 bt444.2 bt452.1 bt452.2 bt460.1 bt460.2.1 bt460.2.2 bt467.1 bt467.2 true)))) else (laws_FnKits.j0 k bt401.1 bt401.2 bt405.1 bt405.2 bt413.1 bt413.2 bt421.1 bt432.1 bt432.2 bt436.1 bt436.2 t443 bt444.1 bt444.2 bt452.1 bt452.2 bt460.1 bt460.2.1 bt460.2.2 bt467.1 bt467.2 true)))) else (laws_FnKits.j0 k bt401.1 bt401.2 bt405.1 bt405.2 bt413.1 bt413.2 bt421.1 bt432.1 bt432.2 bt436.1 bt436.2 t443 bt444.1 bt444.2 bt452.1 bt452.2 bt460.1 bt460.2.1 bt460.2.2 bt467.1 bt467.2 true)))))))))))))))))))))))))) = some r := h
 clear h
 replace H := Option.bind_eq_some_iff.mp H
 obtain ⟨t400, A20, H⟩ := H
 try dsimp only at H
 have A2 := Aside0.mk A20
 clear A20
 by_cases c3 : t400 = true
 ·subst c3
  rw [if_pos rfl] at H
  as_aux_lemma =>
   obtain rfl := Option.some.inj H
   go_enter Try.func4, Try.ntmps4
   go_wp2_with (first | (go_at_call 6; (with_reducible refine (laws_vBig.calls _ _ l0 true _ (Sq.C (HR0.out)) HC0.out A2.out).mono ?_); rintro e w' ⟨rfl, ⟨nd, rfl⟩⟩; (try first | exact ⟨rfl, _, Sq.dd⟩ | exact ⟨rfl, _, Sq.de⟩)))
   repeat (go_quiet (first | (go_at_call 6; (with_reducible refine (laws_vBig.calls _ _ l0 true _ (Sq.C (HR0.out)) HC0.out A2.out).mono ?_); rintro e w' ⟨rfl, ⟨nd, rfl⟩⟩; (try first | exact ⟨rfl, _, Sq.dd⟩ | exact ⟨rfl, _, Sq.de⟩))); try go_wp2_with (first | (go_at_call 6; (with_reducible refine (laws_vBig.calls _ _ l0 true _ (Sq.C (HR0.out)) HC0.out A2.out).mono ?_); rintro e w' ⟨rfl, ⟨nd, rfl⟩⟩; (try first | exact ⟨rfl, _, Sq.dd⟩ | exact ⟨rfl, _, Sq.de⟩))))
   go_ret
   exact ⟨by first | rfl | (simp [errW_none, errW_some] <;> rfl) | (simp [*, errW_none, errW_some] <;> rfl), Sq.B HB⟩
 replace c3 := Bool.eq_false_iff.mpr c3
 subst c3
 rw [if_neg (show ¬ (false = true) by decide)] at H
 replace H := Option.bind_eq_some_iff.mp H
 obtain ⟨⟨t401, t402⟩, A40, H⟩ := H
 try dsimp only at H
 have A4 := Aside0.mk A40
 clear A40
 replace H := Option.bind_eq_some_iff.mp H
 obtain ⟨⟨t405, t406⟩, A50, H⟩ := H
 try dsimp only at H
 have A5 := Aside0.mk A50
 clear A50
 replace H := Option.bind_eq_some_iff.mp H
 obtain ⟨⟨t409, t410⟩, A60, H⟩ := H
 try dsimp only at H
 have A6 := Aside0.mk A60
 clear A60
 replace H := Option.bind_eq_some_iff.mp H
 obtain ⟨⟨t413, t414⟩, A70, H⟩ := H
 try dsimp only at H
 have A7 := Aside0.mk A70
 clear A70
 replace H := Option.bind_eq_some_iff.mp H
 obtain ⟨⟨t417, t418⟩, A80, H⟩ := H
 try dsimp only at H
 have A8 := Aside0.mk A80
 clear A80
 replace H := Option.bind_eq_some_iff.mp H
 obtain ⟨⟨t421, t422⟩, A90, H⟩ := H
 try dsimp only at H
 have A9 := Aside0.mk A90
 clear A90
 replace H := Option.bind_eq_some_iff.mp H
 obtain ⟨⟨t425, t426⟩, A100, H⟩ := H
 try dsimp only at H
 have A10 := Aside0.mk A100
 clear A100
 replace H := Option.bind_eq_some_iff.mp H
 obtain ⟨t429, A110, H⟩ := H
 try dsimp only at H
 have A11 := Aside0.mk A110
 clear A110
 replace H := Option.bind_eq_some_iff.mp H
 obtain ⟨⟨t432, t433⟩, A120, H⟩ := H
 try dsimp only at H
 have A12 := Aside0.mk A120
 clear A120
 replace H := Option.bind_eq_some_iff.mp H
 obtain ⟨⟨t436, t437⟩, A130, H⟩ := H
 try dsimp only at H
 have A13 := Aside0.mk A130
 clear A130
 replace H := Option.bind_eq_some_iff.mp H
 obtain ⟨⟨t438, t439⟩, A140, H⟩ := H
 try dsimp only at H
 have A14 := Aside0.mk A140
 clear A140
 replace H := Option.bind_eq_some_iff.mp H
 obtain ⟨t440, A150, H⟩ := H
 try dsimp only at H
 have A15 := Aside0.mk A150
 clear A150
 replace H := Option.bind_eq_some_iff.mp H
 obtain ⟨t443, A160, H⟩ := H
 try dsimp only at H
 have A16 := Aside0.mk A160
 clear A160
 replace H := Option.bind_eq_some_iff.mp H
 obtain ⟨⟨t444, t445⟩, A170, H⟩ := H
 try dsimp only at H
 have A17 := Aside0.mk A170
 clear A170
 replace H := Option.bind_eq_some_iff.mp H
 obtain ⟨⟨t448, t449⟩, A180, H⟩ := H
 try dsimp only at H
 have A18 := Aside0.mk A180
 clear A180
 replace H := Option.bind_eq_some_iff.mp H
 obtain ⟨⟨t452, t453⟩, A190, H⟩ := H
 try dsimp only at H
 have A19 := Aside0.mk A190
 clear A190
 replace H := Option.bind_eq_some_iff.mp H
 obtain ⟨⟨t456, t457⟩, A200, H⟩ := H
 try dsimp only at H
 have A20 := Aside0.mk A200
 clear A200
 replace H := Option.bind_eq_some_iff.mp H
 obtain ⟨⟨t460, t461, t462⟩, A210, H⟩ := H
 try dsimp only at H
 have A21 := Aside0.mk A210
 clear A210
 replace H := Option.bind_eq_some_iff.mp H
 obtain ⟨⟨t467, t468⟩, A220, H⟩ := H
 try dsimp only at H
 have A22 := Aside0.mk A220
 clear A220
 replace H := Option.bind_eq_some_iff.mp H
 obtain ⟨⟨t471, t472⟩, A230, H⟩ := H
 try dsimp only at H
 have A23 := Aside0.mk A230
 clear A230
 have HC24 := Aside0.mk H
 clear H
 go_enter Try.func4, Try.ntmps4
 as_aux_lemma =>
  go_upto_region 21 with (first | (go_at_call 6; (with_reducible refine (laws_vBig.calls _ _ l0 false _ (Sq.C (HR0.out)) HC0.out A2.out).mono ?_); rintro e w' ⟨rfl, ⟨nd, rfl⟩⟩; (try first | exact ⟨rfl, _, Sq.dd⟩ | exact ⟨rfl, _, Sq.de⟩)) | (go_at_call 28; (with_reducible refine (spec_DrawHowToWeigh.calls k _ _ l0 t401 t402 _ (Sq.C (HR0.out)) HC0.out A4.out).mono ?_); rintro e w25 ⟨v403, rfl, ho0, hb⟩; have HO404 := Sq.L ho0 HB; replace HB := Sq.S HB hb; clear hb ho0; obtain ⟨Ao26, co26, rfl⟩ := Kd.R_slice HO404.out) | (go_at_call 29; (with_reducible refine (impl_HowToWeigh.calls k _ _ t401 t402 t405 t406 _ (Sq.r HO404) (Sq.n HO404) A5.out).mono ?_); rintro e w27 ⟨v407, rfl, ho0, hb⟩; have HO408 := Sq.L (Sq.N ho0 HO404) HB; replace HO404 := Sq.E HO404 ho0 hb; replace HB := Sq.S HB hb; clear hb ho0) | (go_at_call 30; (with_reducible refine (spec_HowToWeigh.calls k _ _ t401 t402 t409 t410 _ (Sq.r HO404) (Sq.n HO404) A6.out).mono ?_); rintro e w28 ⟨v411, rfl, ho0, hb⟩; have HO412 := Sq.L (Sq.N (Sq.N ho0 HO404) HO408) HB; replace HO404 := Sq.E HO404 ho0 hb; replace HO408 := Sq.E HO408 ho0 hb; replace HB := Sq.S HB hb; clear hb ho0) | (go_at_call 31; (with_reducible refine (impl_WeighOne.calls k _ _ t401 t413 t414 _ (Sq.r HO404) (Sq.n HO404) A7.out).mono ?_); rintro e w29 ⟨v415, rfl, ho0, hb⟩; have HO416 := Sq.L (Sq.N (Sq.N (Sq.N ho0 HO404) HO408) HO412) HB; replace HO404 := Sq.E HO404 ho0 hb; replace HO408 := Sq.E HO408 ho0 hb; replace HO412 := Sq.E HO412 ho0 hb; replace HB := Sq.S HB hb; clear hb ho0) | (go_at_call 32; (with_reducible refine (spec_WeighOne.calls k _ _ t401 t417 t418 _ (Sq.r HO404) (Sq.n HO404) A8.out).mono ?_); rintro e w30 ⟨v419, rfl, ho0, hb⟩; have HO420 := Sq.L (Sq.N (Sq.N (Sq.N (Sq.N ho0 HO404) HO408) HO412) HO416) HB; replace HO404 := Sq.E HO404 ho0 hb; replace HO408 := Sq.E HO408 ho0 hb; replace HO412 := Sq.E HO412 ho0 hb; replace HO416 := Sq.E HO416 ho0 hb; replace HB := Sq.S HB hb; clear hb ho0) | (go_at_call 33; (with_reducible refine (impl_WeighTwo.calls k _ _ t401 t421 t422 _ (Sq.r HO404) (Sq.n HO404) A9.out).mono ?_); rintro e w31 ⟨v423, rfl, ho0, hb⟩; have HO424 := Sq.L (Sq.N (Sq.N (Sq.N (Sq.N (Sq.N ho0 HO404) HO408) HO412) HO416) HO420) HB; replace HO404 := Sq.E HO404 ho0 hb; replace HO408 := Sq.E HO408 ho0 hb; replace HO412 := Sq.E HO412 ho0 hb; replace HO416 := Sq.E HO416 ho0 hb; replace HO420 := Sq.E HO420 ho0 hb; replace HB := Sq.S HB hb; clear hb ho0) | (go_at_call 34; (with_reducible refine (spec_WeighTwo.calls k _ _ t401 t425 t426 _ (Sq.r HO404) (Sq.n HO404) A10.out).mono ?_); rintro e w32 ⟨v427, rfl, ho0, hb⟩; have HO428 := Sq.L (Sq.N (Sq.N (Sq.N (Sq.N (Sq.N (Sq.N ho0 HO404) HO408) HO412) HO416) HO420) HO424) HB; replace HO404 := Sq.E HO404 ho0 hb; replace HO408 := Sq.E HO408 ho0 hb; replace HO412 := Sq.E HO412 ho0 hb; replace HO416 := Sq.E HO416 ho0 hb; replace HO420 := Sq.E HO420 ho0 hb; replace HO424 := Sq.E HO424 ho0 hb; replace HB := Sq.S HB hb; clear hb ho0) | (go_at_call 11; (with_reducible refine (laws_vCut.calls _ _ l0 1 t429 _ (Sq.C ((Kd.C_below HR0.out HB.out))) HC0.out A11.out).mono ?_); rintro e w33 ⟨v430, rfl, ho0, hb⟩; have HO431 := Sq.L ho0 HB; replace HO404 := Sq.T HO404 hb; replace HO408 := Sq.T HO408 hb; replace HO412 := Sq.T HO412 hb; replace HO416 := Sq.T HO416 hb; replace HO420 := Sq.T HO420 hb; replace HO424 := Sq.T HO424 hb; replace HO428 := Sq.T HO428 hb; replace HB := Sq.S HB hb; clear hb ho0; obtain ⟨Ao34, co34, rfl⟩ := Kd.R_slice HO431.out) | (go_at_call 35; (with_reducible refine (spec_DrawKitRange.calls k _ _ t429 t432 t433 _ (Sq.r HO431) (Sq.n HO431) A12.out).mono ?_); rintro e w35 ⟨v434, rfl, ho0, hb⟩; have HO435 := Sq.L (Sq.N (Sq.N (Sq.N (Sq.N (Sq.N (Sq.N (Sq.N ho0 HO404) HO408) HO412) HO416) HO420) HO424) HO428) HB; replace HO404 := Sq.E HO404 ho0 hb; replace HO408 := Sq.E HO408 ho0 hb; replace HO412 := Sq.E HO412 ho0 hb; replace HO416 := Sq.E HO416 ho0 hb; replace HO420 := Sq.E HO420 ho0 hb; replace HO424 := Sq.E HO424 ho0 hb; replace HO428 := Sq.E HO428 ho0 hb; replace HO431 := Sq.T HO431 hb; replace HB := Sq.S HB hb; clear hb ho0; obtain ⟨Ao36, co36, rfl⟩ := Kd.R_slice HO435.out) | (go_at_call 36; (with_reducible refine (impl_KitRange.calls k _ _ t432 t433 t436 t437 _ (Sq.r HO435) (Sq.n HO435) A13.out).mono ?_); rintro e w37 ⟨rfl, hb⟩; replace HO404 := Sq.T HO404 hb; replace HO408 := Sq.T HO408 hb; replace HO412 := Sq.T HO412 hb; replace HO416 := Sq.T HO416 hb; replace HO420 := Sq.T HO420 hb; replace HO424 := Sq.T HO424 hb; replace HO428 := Sq.T HO428 hb; replace HO431 := Sq.T HO431 hb; replace HO435 := Sq.T HO435 hb; replace HB := Sq.S HB hb; clear hb) | (go_at_call 37; (with_reducible refine (spec_KitRange.calls k _ _ t432 t433 t438 t439 _ (Sq.r HO435) (Sq.n HO435) A14.out).mono ?_); rintro e w38 ⟨rfl, hb⟩; replace HO404 := Sq.T HO404 hb; replace HO408 := Sq.T HO408 hb; replace HO412 := Sq.T HO412 hb; replace HO416 := Sq.T HO416 hb; replace HO420 := Sq.T HO420 hb; replace HO424 := Sq.T HO424 hb; replace HO428 := Sq.T HO428 hb; replace HO431 := Sq.T HO431 hb; replace HO435 := Sq.T HO435 hb; replace HB := Sq.S HB hb; clear hb) | (go_at_call 11; (with_reducible refine (laws_vCut.calls _ _ l0 2 t440 _ (Sq.C ((Kd.C_below HR0.out HB.out))) HC0.out A15.out).mono ?_); rintro e w39 ⟨v441, rfl, ho0, hb⟩; have HO442 := Sq.L (Sq.N ho0 HO431) HB; replace HO404 := Sq.T HO404 hb; replace HO408 := Sq.T HO408 hb; replace HO412 := Sq.T HO412 hb; replace HO416 := Sq.T HO416 hb; replace HO420 := Sq.T HO420 hb; replace HO424 := Sq.T HO424 hb; replace HO428 := Sq.T HO428 hb; replace HO431 := Sq.E HO431 ho0 hb; replace HO435 := Sq.T HO435 hb; replace HB := Sq.S HB hb; clear hb ho0; obtain ⟨Ao40, co40, rfl⟩ := Kd.R_slice HO442.out) | (go_at_call 38; (with_reducible refine (spec_DrawThreesKit.calls _ _ t440 t443 _ (Sq.r HO442) (Sq.n HO442) A16.out).mono ?_); rintro e w41 ⟨rfl, hb⟩; replace HO404 := Sq.T HO404 hb; replace HO408 := Sq.T HO408 hb; replace HO412 := Sq.T HO412 hb; replace HO416 := Sq.T HO416 hb; replace HO420 := Sq.T HO420 hb; replace HO424 := Sq.T HO424 hb; replace HO428 := Sq.T HO428 hb; replace HO431 := Sq.T HO431 hb; replace HO435 := Sq.T HO435 hb; replace HO442 := Sq.T HO442 hb; replace HB := Sq.S HB hb; clear hb) | (go_at_call 39; (with_reducible refine (impl_ThreesKit.calls k t443 t444 t445 _ A17.out).mono ?_); rintro e w42 ⟨v446, rfl, ho0, hb⟩; have HO447 := Sq.L (Sq.N (Sq.N (Sq.N (Sq.N (Sq.N (Sq.N (Sq.N (Sq.N ho0 HO404) HO408) HO412) HO416) HO420) HO424) HO428) HO435) HB; replace HO404 := Sq.E HO404 ho0 hb; replace HO408 := Sq.E HO408 ho0 hb; replace HO412 := Sq.E HO412 ho0 hb; replace HO416 := Sq.E HO416 ho0 hb; replace HO420 := Sq.E HO420 ho0 hb; replace HO424 := Sq.E HO424 ho0 hb; replace HO428 := Sq.E HO428 ho0 hb; replace HO431 := Sq.T HO431 hb; replace HO435 := Sq.E HO435 ho0 hb; replace HO442 := Sq.T HO442 hb; replace HB := Sq.S HB hb; clear hb ho0) | (go_at_call 40; (with_reducible refine (spec_ThreesKit.calls k t443 t448 t449 _ A18.out).mono ?_); rintro e w43 ⟨v450, rfl, ho0, hb⟩; have HO451 := Sq.L (Sq.N (Sq.N (Sq.N (Sq.N (Sq.N (Sq.N (Sq.N (Sq.N (Sq.N ho0 HO404) HO408) HO412) HO416) HO420) HO424) HO428) HO435) HO447) HB; replace HO404 := Sq.E HO404 ho0 hb; replace HO408 := Sq.E HO408 ho0 hb; replace HO412 := Sq.E HO412 ho0 hb; replace HO416 := Sq.E HO416 ho0 hb; replace HO420 := Sq.E HO420 ho0 hb; replace HO424 := Sq.E HO424 ho0 hb; replace HO428 := Sq.E HO428 ho0 hb; replace HO431 := Sq.T HO431 hb; replace HO435 := Sq.E HO435 ho0 hb; replace HO442 := Sq.T HO442 hb; replace HO447 := Sq.E HO447 ho0 hb; replace HB := Sq.S HB hb; clear hb ho0) | (go_at_call 41; (with_reducible refine (impl_TwosKit.calls k t443 t452 t453 _ A19.out).mono ?_); rintro e w44 ⟨v454, rfl, ho0, hb⟩; have HO455 := Sq.L (Sq.N (Sq.N (Sq.N (Sq.N (Sq.N (Sq.N (Sq.N (Sq.N (Sq.N (Sq.N ho0 HO404) HO408) HO412) HO416) HO420) HO424) HO428) HO435) HO447) HO451) HB; replace HO404 := Sq.E HO404 ho0 hb; replace HO408 := Sq.E HO408 ho0 hb; replace HO412 := Sq.E HO412 ho0 hb; replace HO416 := Sq.E HO416 ho0 hb; replace HO420 := Sq.E HO420 ho0 hb; replace HO424 := Sq.E HO424 ho0 hb; replace HO428 := Sq.E HO428 ho0 hb; replace HO431 := Sq.T HO431 hb; replace HO435 := Sq.E HO435 ho0 hb; replace HO442 := Sq.T HO442 hb; replace HO447 := Sq.E HO447 ho0 hb; replace HO451 := Sq.E HO451 ho0 hb; replace HB := Sq.S HB hb; clear hb ho0) | (go_at_call 42; (with_reducible refine (spec_TwosKit.calls k t443 t456 t457 _ A20.out).mono ?_); rintro e w45 ⟨v458, rfl, ho0, hb⟩; have HO459 := Sq.L (Sq.N (Sq.N (Sq.N (Sq.N (Sq.N (Sq.N (Sq.N (Sq.N (Sq.N (Sq.N (Sq.N ho0 HO404) HO408) HO412) HO416) HO420) HO424) HO428) HO435) HO447) HO451) HO455) HB; replace HO404 := Sq.E HO404 ho0 hb; replace HO408 := Sq.E HO408 ho0 hb; replace HO412 := Sq.E HO412 ho0 hb; replace HO416 := Sq.E HO416 ho0 hb; replace HO420 := Sq.E HO420 ho0 hb; replace HO424 := Sq.E HO424 ho0 hb; replace HO428 := Sq.E HO428 ho0 hb; replace HO431 := Sq.T HO431 hb; replace HO435 := Sq.E HO435 ho0 hb; replace HO442 := Sq.T HO442 hb; replace HO447 := Sq.E HO447 ho0 hb; replace HO451 := Sq.E HO451 ho0 hb; replace HO455 := Sq.E HO455 ho0 hb; replace HB := Sq.S HB hb; clear hb ho0) | (go_at_call 43; (with_reducible refine (spec_DrawPanRow.calls k _ _ l0 t460 t461 t462 _ (Sq.C ((Kd.C_below HR0.out HB.out))) HC0.out A21.out).mono ?_); rintro e w46 ⟨v463, v465, rfl, ho0, ho1, hb⟩; have HO464 := Sq.L (Sq.N (Sq.N (Sq.N (Sq.N (Sq.N (Sq.N (Sq.N (Sq.N (Sq.N (Sq.N (Sq.N (Sq.N ho0 HO404) HO408) HO412) HO416) HO420) HO424) HO428) HO435) HO447) HO451) HO455) HO459) HB; have HO466 := Sq.L (Sq.N (Sq.N (Sq.N (Sq.N (Sq.N (Sq.N (Sq.N (Sq.N (Sq.N (Sq.N (Sq.N (Sq.N ho1 HO404) HO408) HO412) HO416) HO420) HO424) HO428) HO435) HO447) HO451) HO455) HO459) HB; replace HO404 := Aside0.mk (Kd.R_mono (Kd.R_told (Kd.R_told (Kd.R_old (Sq.R HO404) hb) (Kd.R_base ho0)) (Kd.R_base ho1)) (fun _ h_ => h_.1)); replace HO408 := Aside0.mk (Kd.R_mono (Kd.R_told (Kd.R_told (Kd.R_old (Sq.R HO408) hb) (Kd.R_base ho0)) (Kd.R_base ho1)) (fun _ h_ => h_.1)); replace HO412 := Aside0.mk (Kd.R_mono (Kd.R_told (Kd.R_told (Kd.R_old (Sq.R HO412) hb) (Kd.R_base ho0)) (Kd.R_base ho1)) (fun _ h_ => h_.1)); replace HO416 := Aside0.mk (Kd.R_mono (Kd.R_told (Kd.R_told (Kd.R_old (Sq.R HO416) hb) (Kd.R_base ho0)) (Kd.R_base ho1)) (fun _ h_ => h_.1)); replace HO420 := Aside0.mk (Kd.R_mono (Kd.R_told (Kd.R_told (Kd.R_old (Sq.R HO420) hb) (Kd.R_base ho0)) (Kd.R_base ho1)) (fun _ h_ => h_.1)); replace HO424 := Aside0.mk (Kd.R_mono (Kd.R_told (Kd.R_told (Kd.R_old (Sq.R HO424) hb) (Kd.R_base ho0)) (Kd.R_base ho1)) (fun _ h_ => h_.1)); replace HO428 := Aside0.mk (Kd.R_mono (Kd.R_told (Kd.R_told (Kd.R_old (Sq.R HO428) hb) (Kd.R_base ho0)) (Kd.R_base ho1)) (fun _ h_ => h_.1)); replace HO431 := Sq.T HO431 hb; replace HO435 := Aside0.mk (Kd.R_mono (Kd.R_told (Kd.R_told (Kd.R_old (Sq.R HO435) hb) (Kd.R_base ho0)) (Kd.R_base ho1)) (fun _ h_ => h_.1)); replace HO442 := Sq.T HO442 hb; replace HO447 := Aside0.mk (Kd.R_mono (Kd.R_told (Kd.R_told (Kd.R_old (Sq.R HO447) hb) (Kd.R_base ho0)) (Kd.R_base ho1)) (fun _ h_ => h_.1)); replace HO451 := Aside0.mk (Kd.R_mono (Kd.R_told (Kd.R_told (Kd.R_old (Sq.R HO451) hb) (Kd.R_base ho0)) (Kd.R_base ho1)) (fun _ h_ => h_.1)); replace HO455 := Aside0.mk (Kd.R_mono (Kd.R_told (Kd.R_told (Kd.R_old (Sq.R HO455) hb) (Kd.R_base ho0)) (Kd.R_base ho1)) (fun _ h_ => h_.1)); replace HO459 := Aside0.mk (Kd.R_mono (Kd.R_told (Kd.R_told (Kd.R_old (Sq.R HO459) hb) (Kd.R_base ho0)) (Kd.R_base ho1)) (fun _ h_ => h_.1)); replace HB := Sq.S HB hb; clear hb ho0 ho1; obtain ⟨Ao47, co47, rfl⟩ := Kd.R_slice HO464.out; obtain ⟨Ao48, co48, rfl⟩ := Kd.R_slice HO466.out) | (go_at_call 44; (with_reducible refine (impl_PanRow.calls k _ _ t460 _ _ t461 t462 t467 t468 _ (Sq.r HO464) (Sq.n HO464) (Sq.r HO466) (Sq.n HO466) A22.out).mono ?_); rintro e w49 ⟨v469, rfl, ho0, hb⟩; have HO470 := Sq.L ho0 HB; replace HO404 := Sq.T HO404 hb; replace HO408 := Sq.T HO408 hb; replace HO412 := Sq.T HO412 hb; replace HO416 := Sq.T HO416 hb; replace HO420 := Sq.T HO420 hb; replace HO424 := Sq.T HO424 hb; replace HO428 := Sq.T HO428 hb; replace HO431 := Sq.T HO431 hb; replace HO435 := Sq.T HO435 hb; replace HO442 := Sq.T HO442 hb; replace HO447 := Sq.T HO447 hb; replace HO451 := Sq.T HO451 hb; replace HO455 := Sq.T HO455 hb; replace HO459 := Sq.T HO459 hb; replace HO464 := Sq.T HO464 hb; replace HO466 := Sq.T HO466 hb; replace HB := Sq.S HB hb; clear hb ho0) | (go_at_call 45; (with_reducible refine (spec_PanRow.calls k _ _ t460 _ _ t461 t462 t471 t472 _ (Sq.r HO464) (Sq.n HO464) (Sq.r HO466) (Sq.n HO466) A23.out).mono ?_); rintro e w50 ⟨v473, rfl, ho0, hb⟩; have HO474 := Sq.L (Sq.N ho0 HO470) HB; replace HO404 := Sq.T HO404 hb; replace HO408 := Sq.T HO408 hb; replace HO412 := Sq.T HO412 hb; replace HO416 := Sq.T HO416 hb; replace HO420 := Sq.T HO420 hb; replace HO424 := Sq.T HO424 hb; replace HO428 := Sq.T HO428 hb; replace HO431 := Sq.T HO431 hb; replace HO435 := Sq.T HO435 hb; replace HO442 := Sq.T HO442 hb; replace HO447 := Sq.T HO447 hb; replace HO451 := Sq.T HO451 hb; replace HO455 := Sq.T HO455 hb; replace HO459 := Sq.T HO459 hb; replace HO464 := Sq.T HO464 hb; replace HO466 := Sq.T HO466 hb; replace HO470 := Sq.E HO470 ho0 hb; replace HB := Sq.S HB hb; clear hb ho0))
  repeat (go_quiet (first | (go_at_call 6; (with_reducible refine (laws_vBig.calls _ _ l0 false _ (Sq.C (HR0.out)) HC0.out A2.out).mono ?_); rintro e w' ⟨rfl, ⟨nd, rfl⟩⟩; (try first | exact ⟨rfl, _, Sq.dd⟩ | exact ⟨rfl, _, Sq.de⟩)) | (go_at_call 28; (with_reducible refine (spec_DrawHowToWeigh.calls k _ _ l0 t401 t402 _ (Sq.C (HR0.out)) HC0.out A4.out).mono ?_); rintro e w25 ⟨v403, rfl, ho0, hb⟩; have HO404 := Sq.L ho0 HB; replace HB := Sq.S HB hb; clear hb ho0; obtain ⟨Ao26, co26, rfl⟩ := Kd.R_slice HO404.out) | (go_at_call 29; (with_reducible refine (impl_HowToWeigh.calls k _ _ t401 t402 t405 t406 _ (Sq.r HO404) (Sq.n HO404) A5.out).mono ?_); rintro e w27 ⟨v407, rfl, ho0, hb⟩; have HO408 := Sq.L (Sq.N ho0 HO404) HB; replace HO404 := Sq.E HO404 ho0 hb; replace HB := Sq.S HB hb; clear hb ho0) | (go_at_call 30; (with_reducible refine (spec_HowToWeigh.calls k _ _ t401 t402 t409 t410 _ (Sq.r HO404) (Sq.n HO404) A6.out).mono ?_); rintro e w28 ⟨v411, rfl, ho0, hb⟩; have HO412 := Sq.L (Sq.N (Sq.N ho0 HO404) HO408) HB; replace HO404 := Sq.E HO404 ho0 hb; replace HO408 := Sq.E HO408 ho0 hb; replace HB := Sq.S HB hb; clear hb ho0) | (go_at_call 31; (with_reducible refine (impl_WeighOne.calls k _ _ t401 t413 t414 _ (Sq.r HO404) (Sq.n HO404) A7.out).mono ?_); rintro e w29 ⟨v415, rfl, ho0, hb⟩; have HO416 := Sq.L (Sq.N (Sq.N (Sq.N ho0 HO404) HO408) HO412) HB; replace HO404 := Sq.E HO404 ho0 hb; replace HO408 := Sq.E HO408 ho0 hb; replace HO412 := Sq.E HO412 ho0 hb; replace HB := Sq.S HB hb; clear hb ho0) | (go_at_call 32; (with_reducible refine (spec_WeighOne.calls k _ _ t401 t417 t418 _ (Sq.r HO404) (Sq.n HO404) A8.out).mono ?_); rintro e w30 ⟨v419, rfl, ho0, hb⟩; have HO420 := Sq.L (Sq.N (Sq.N (Sq.N (Sq.N ho0 HO404) HO408) HO412) HO416) HB; replace HO404 := Sq.E HO404 ho0 hb; replace HO408 := Sq.E HO408 ho0 hb; replace HO412 := Sq.E HO412 ho0 hb; replace HO416 := Sq.E HO416 ho0 hb; replace HB := Sq.S HB hb; clear hb ho0) | (go_at_call 33; (with_reducible refine (impl_WeighTwo.calls k _ _ t401 t421 t422 _ (Sq.r HO404) (Sq.n HO404) A9.out).mono ?_); rintro e w31 ⟨v423, rfl, ho0, hb⟩; have HO424 := Sq.L (Sq.N (Sq.N (Sq.N (Sq.N (Sq.N ho0 HO404) HO408) HO412) HO416) HO420) HB; replace HO404 := Sq.E HO404 ho0 hb; replace HO408 := Sq.E HO408 ho0 hb; replace HO412 := Sq.E HO412 ho0 hb; replace HO416 := Sq.E HO416 ho0 hb; replace HO420 := Sq.E HO420 ho0 hb; replace HB := Sq.S HB hb; clear hb ho0) | (go_at_call 34; (with_reducible refine (spec_WeighTwo.calls k _ _ t401 t425 t426 _ (Sq.r HO404) (Sq.n HO404) A10.out).mono ?_); rintro e w32 ⟨v427, rfl, ho0, hb⟩; have HO428 := Sq.L (Sq.N (Sq.N (Sq.N (Sq.N (Sq.N (Sq.N ho0 HO404) HO408) HO412) HO416) HO420) HO424) HB; replace HO404 := Sq.E HO404 ho0 hb; replace HO408 := Sq.E HO408 ho0 hb; replace HO412 := Sq.E HO412 ho0 hb; replace HO416 := Sq.E HO416 ho0 hb; replace HO420 := Sq.E HO420 ho0 hb; replace HO424 := Sq.E HO424 ho0 hb; replace HB := Sq.S HB hb; clear hb ho0) | (go_at_call 11; (with_reducible refine (laws_vCut.calls _ _ l0 1 t429 _ (Sq.C ((Kd.C_below HR0.out HB.out))) HC0.out A11.out).mono ?_); rintro e w33 ⟨v430, rfl, ho0, hb⟩; have HO431 := Sq.L ho0 HB; replace HO404 := Sq.T HO404 hb; replace HO408 := Sq.T HO408 hb; replace HO412 := Sq.T HO412 hb; replace HO416 := Sq.T HO416 hb; replace HO420 := Sq.T HO420 hb; replace HO424 := Sq.T HO424 hb; replace HO428 := Sq.T HO428 hb; replace HB := Sq.S HB hb; clear hb ho0; obtain ⟨Ao34, co34, rfl⟩ := Kd.R_slice HO431.out) | (go_at_call 35; (with_reducible refine (spec_DrawKitRange.calls k _ _ t429 t432 t433 _ (Sq.r HO431) (Sq.n HO431) A12.out).mono ?_); rintro e w35 ⟨v434, rfl, ho0, hb⟩; have HO435 := Sq.L (Sq.N (Sq.N (Sq.N (Sq.N (Sq.N (Sq.N (Sq.N ho0 HO404) HO408) HO412) HO416) HO420) HO424) HO428) HB; replace HO404 := Sq.E HO404 ho0 hb; replace HO408 := Sq.E HO408 ho0 hb; replace HO412 := Sq.E HO412 ho0 hb; replace HO416 := Sq.E HO416 ho0 hb; replace HO420 := Sq.E HO420 ho0 hb; replace HO424 := Sq.E HO424 ho0 hb; replace HO428 := Sq.E HO428 ho0 hb; replace HO431 := Sq.T HO431 hb; replace HB := Sq.S HB hb; clear hb ho0; obtain ⟨Ao36, co36, rfl⟩ := Kd.R_slice HO435.out) | (go_at_call 36; (with_reducible refine (impl_KitRange.calls k _ _ t432 t433 t436 t437 _ (Sq.r HO435) (Sq.n HO435) A13.out).mono ?_); rintro e w37 ⟨rfl, hb⟩; replace HO404 := Sq.T HO404 hb; replace HO408 := Sq.T HO408 hb; replace HO412 := Sq.T HO412 hb; replace HO416 := Sq.T HO416 hb; replace HO420 := Sq.T HO420 hb; replace HO424 := Sq.T HO424 hb; replace HO428 := Sq.T HO428 hb; replace HO431 := Sq.T HO431 hb; replace HO435 := Sq.T HO435 hb; replace HB := Sq.S HB hb; clear hb) | (go_at_call 37; (with_reducible refine (spec_KitRange.calls k _ _ t432 t433 t438 t439 _ (Sq.r HO435) (Sq.n HO435) A14.out).mono ?_); rintro e w38 ⟨rfl, hb⟩; replace HO404 := Sq.T HO404 hb; replace HO408 := Sq.T HO408 hb; replace HO412 := Sq.T HO412 hb; replace HO416 := Sq.T HO416 hb; replace HO420 := Sq.T HO420 hb; replace HO424 := Sq.T HO424 hb; replace HO428 := Sq.T HO428 hb; replace HO431 := Sq.T HO431 hb; replace HO435 := Sq.T HO435 hb; replace HB := Sq.S HB hb; clear hb) | (go_at_call 11; (with_reducible refine (laws_vCut.calls _ _ l0 2 t440 _ (Sq.C ((Kd.C_below HR0.out HB.out))) HC0.out A15.out).mono ?_); rintro e w39 ⟨v441, rfl, ho0, hb⟩; have HO442 := Sq.L (Sq.N ho0 HO431) HB; replace HO404 := Sq.T HO404 hb; replace HO408 := Sq.T HO408 hb; replace HO412 := Sq.T HO412 hb; replace HO416 := Sq.T HO416 hb; replace HO420 := Sq.T HO420 hb; replace HO424 := Sq.T HO424 hb; replace HO428 := Sq.T HO428 hb; replace HO431 := Sq.E HO431 ho0 hb; replace HO435 := Sq.T HO435 hb; replace HB := Sq.S HB hb; clear hb ho0; obtain ⟨Ao40, co40, rfl⟩ := Kd.R_slice HO442.out) | (go_at_call 38; (with_reducible refine (spec_DrawThreesKit.calls _ _ t440 t443 _ (Sq.r HO442) (Sq.n HO442) A16.out).mono ?_); rintro e w41 ⟨rfl, hb⟩; replace HO404 := Sq.T HO404 hb; replace HO408 := Sq.T HO408 hb; replace HO412 := Sq.T HO412 hb; replace HO416 := Sq.T HO416 hb; replace HO420 := Sq.T HO420 hb; replace HO424 := Sq.T HO424 hb; replace HO428 := Sq.T HO428 hb; replace HO431 := Sq.T HO431 hb; replace HO435 := Sq.T HO435 hb; replace HO442 := Sq.T HO442 hb; replace HB := Sq.S HB hb; clear hb) | (go_at_call 39; (with_reducible refine (impl_ThreesKit.calls k t443 t444 t445 _ A17.out).mono ?_); rintro e w42 ⟨v446, rfl, ho0, hb⟩; have HO447 := Sq.L (Sq.N (Sq.N (Sq.N (Sq.N (Sq.N (Sq.N (Sq.N (Sq.N ho0 HO404) HO408) HO412) HO416) HO420) HO424) HO428) HO435) HB; replace HO404 := Sq.E HO404 ho0 hb; replace HO408 := Sq.E HO408 ho0 hb; replace HO412 := Sq.E HO412 ho0 hb; replace HO416 := Sq.E HO416 ho0 hb; replace HO420 := Sq.E HO420 ho0 hb; replace HO424 := Sq.E HO424 ho0 hb; replace HO428 := Sq.E HO428 ho0 hb; replace HO431 := Sq.T HO431 hb; replace HO435 := Sq.E HO435 ho0 hb; replace HO442 := Sq.T HO442 hb; replace HB := Sq.S HB hb; clear hb ho0) | (go_at_call 40; (with_reducible refine (spec_ThreesKit.calls k t443 t448 t449 _ A18.out).mono ?_); rintro e w43 ⟨v450, rfl, ho0, hb⟩; have HO451 := Sq.L (Sq.N (Sq.N (Sq.N (Sq.N (Sq.N (Sq.N (Sq.N (Sq.N (Sq.N ho0 HO404) HO408) HO412) HO416) HO420) HO424) HO428) HO435) HO447) HB; replace HO404 := Sq.E HO404 ho0 hb; replace HO408 := Sq.E HO408 ho0 hb; replace HO412 := Sq.E HO412 ho0 hb; replace HO416 := Sq.E HO416 ho0 hb; replace HO420 := Sq.E HO420 ho0 hb; replace HO424 := Sq.E HO424 ho0 hb; replace HO428 := Sq.E HO428 ho0 hb; replace HO431 := Sq.T HO431 hb; replace HO435 := Sq.E HO435 ho0 hb; replace HO442 := Sq.T HO442 hb; replace HO447 := Sq.E HO447 ho0 hb; replace HB := Sq.S HB hb; clear hb ho0) | (go_at_call 41; (with_reducible refine (impl_TwosKit.calls k t443 t452 t453 _ A19.out).mono ?_); rintro e w44 ⟨v454, rfl, ho0, hb⟩; have HO455 := Sq.L (Sq.N (Sq.N (Sq.N (Sq.N (Sq.N (Sq.N (Sq.N (Sq.N (Sq.N (Sq.N ho0 HO404) HO408) HO412) HO416) HO420) HO424) HO428) HO435) HO447) HO451) HB; replace HO404 := Sq.E HO404 ho0 hb; replace HO408 := Sq.E HO408 ho0 hb; replace HO412 := Sq.E HO412 ho0 hb; replace HO416 := Sq.E HO416 ho0 hb; replace HO420 := Sq.E HO420 ho0 hb; replace HO424 := Sq.E HO424 ho0 hb; replace HO428 := Sq.E HO428 ho0 hb; replace HO431 := Sq.T HO431 hb; replace HO435 := Sq.E HO435 ho0 hb; replace HO442 := Sq.T HO442 hb; replace HO447 := Sq.E HO447 ho0 hb; replace HO451 := Sq.E HO451 ho0 hb; replace HB := Sq.S HB hb; clear hb ho0) | (go_at_call 42; (with_reducible refine (spec_TwosKit.calls k t443 t456 t457 _ A20.out).mono ?_); rintro e w45 ⟨v458, rfl, ho0, hb⟩; have HO459 := Sq.L (Sq.N (Sq.N (Sq.N (Sq.N (Sq.N (Sq.N (Sq.N (Sq.N (Sq.N (Sq.N (Sq.N ho0 HO404) HO408) HO412) HO416) HO420) HO424) HO428) HO435) HO447) HO451) HO455) HB; replace HO404 := Sq.E HO404 ho0 hb; replace HO408 := Sq.E HO408 ho0 hb; replace HO412 := Sq.E HO412 ho0 hb; replace HO416 := Sq.E HO416 ho0 hb; replace HO420 := Sq.E HO420 ho0 hb; replace HO424 := Sq.E HO424 ho0 hb; replace HO428 := Sq.E HO428 ho0 hb; replace HO431 := Sq.T HO431 hb; replace HO435 := Sq.E HO435 ho0 hb; replace HO442 := Sq.T HO442 hb; replace HO447 := Sq.E HO447 ho0 hb; replace HO451 := Sq.E HO451 ho0 hb; replace HO455 := Sq.E HO455 ho0 hb; replace HB := Sq.S HB hb; clear hb ho0) | (go_at_call 43; (with_reducible refine (spec_DrawPanRow.calls k _ _ l0 t460 t461 t462 _ (Sq.C ((Kd.C_below HR0.out HB.out))) HC0.out A21.out).mono ?_); rintro e w46 ⟨v463, v465, rfl, ho0, ho1, hb⟩; have HO464 := Sq.L (Sq.N (Sq.N (Sq.N (Sq.N (Sq.N (Sq.N (Sq.N (Sq.N (Sq.N (Sq.N (Sq.N (Sq.N ho0 HO404) HO408) HO412) HO416) HO420) HO424) HO428) HO435) HO447) HO451) HO455) HO459) HB; have HO466 := Sq.L (Sq.N (Sq.N (Sq.N (Sq.N (Sq.N (Sq.N (Sq.N (Sq.N (Sq.N (Sq.N (Sq.N (Sq.N ho1 HO404) HO408) HO412) HO416) HO420) HO424) HO428) HO435) HO447) HO451) HO455) HO459) HB; replace HO404 := Aside0.mk (Kd.R_mono (Kd.R_told (Kd.R_told (Kd.R_old (Sq.R HO404) hb) (Kd.R_base ho0)) (Kd.R_base ho1)) (fun _ h_ => h_.1)); replace HO408 := Aside0.mk (Kd.R_mono (Kd.R_told (Kd.R_told (Kd.R_old (Sq.R HO408) hb) (Kd.R_base ho0)) (Kd.R_base ho1)) (fun _ h_ => h_.1)); replace HO412 := Aside0.mk (Kd.R_mono (Kd.R_told (Kd.R_told (Kd.R_old (Sq.R HO412) hb) (Kd.R_base ho0)) (Kd.R_base ho1)) (fun _ h_ => h_.1)); replace HO416 := Aside0.mk (Kd.R_mono (Kd.R_told (Kd.R_told (Kd.R_old (Sq.R HO416) hb) (Kd.R_base ho0)) (Kd.R_base ho1)) (fun _ h_ => h_.1)); replace HO420 := Aside0.mk (Kd.R_mono (Kd.R_told (Kd.R_told (Kd.R_old (Sq.R HO420) hb) (Kd.R_base ho0)) (Kd.R_base ho1)) (fun _ h_ => h_.1)); replace HO424 := Aside0.mk (Kd.R_mono (Kd.R_told (Kd.R_told (Kd.R_old (Sq.R HO424) hb) (Kd.R_base ho0)) (Kd.R_base ho1)) (fun _ h_ => h_.1)); replace HO428 := Aside0.mk (Kd.R_mono (Kd.R_told (Kd.R_told (Kd.R_old (Sq.R HO428) hb) (Kd.R_base ho0)) (Kd.R_base ho1)) (fun _ h_ => h_.1)); replace HO431 := Sq.T HO431 hb; replace HO435 := Aside0.mk (Kd.R_mono (Kd.R_told (Kd.R_told (Kd.R_old (Sq.R HO435) hb) (Kd.R_base ho0)) (Kd.R_base ho1)) (fun _ h_ => h_.1)); replace HO442 := Sq.T HO442 hb; replace HO447 := Aside0.mk (Kd.R_mono (Kd.R_told (Kd.R_told (Kd.R_old (Sq.R HO447) hb) (Kd.R_base ho0)) (Kd.R_base ho1)) (fun _ h_ => h_.1)); replace HO451 := Aside0.mk (Kd.R_mono (Kd.R_told (Kd.R_told (Kd.R_old (Sq.R HO451) hb) (Kd.R_base ho0)) (Kd.R_base ho1)) (fun _ h_ => h_.1)); replace HO455 := Aside0.mk (Kd.R_mono (Kd.R_told (Kd.R_told (Kd.R_old (Sq.R HO455) hb) (Kd.R_base ho0)) (Kd.R_base ho1)) (fun _ h_ => h_.1)); replace HO459 := Aside0.mk (Kd.R_mono (Kd.R_told (Kd.R_told (Kd.R_old (Sq.R HO459) hb) (Kd.R_base ho0)) (Kd.R_base ho1)) (fun _ h_ => h_.1)); replace HB := Sq.S HB hb; clear hb ho0 ho1; obtain ⟨Ao47, co47, rfl⟩ := Kd.R_slice HO464.out; obtain ⟨Ao48, co48, rfl⟩ := Kd.R_slice HO466.out) | (go_at_call 44; (with_reducible refine (impl_PanRow.calls k _ _ t460 _ _ t461 t462 t467 t468 _ (Sq.r HO464) (Sq.n HO464) (Sq.r HO466) (Sq.n HO466) A22.out).mono ?_); rintro e w49 ⟨v469, rfl, ho0, hb⟩; have HO470 := Sq.L ho0 HB; replace HO404 := Sq.T HO404 hb; replace HO408 := Sq.T HO408 hb; replace HO412 := Sq.T HO412 hb; replace HO416 := Sq.T HO416 hb; replace HO420 := Sq.T HO420 hb; replace HO424 := Sq.T HO424 hb; replace HO428 := Sq.T HO428 hb; replace HO431 := Sq.T HO431 hb; replace HO435 := Sq.T HO435 hb; replace HO442 := Sq.T HO442 hb; replace HO447 := Sq.T HO447 hb; replace HO451 := Sq.T HO451 hb; replace HO455 := Sq.T HO455 hb; replace HO459 := Sq.T HO459 hb; replace HO464 := Sq.T HO464 hb; replace HO466 := Sq.T HO466 hb; replace HB := Sq.S HB hb; clear hb ho0) | (go_at_call 45; (with_reducible refine (spec_PanRow.calls k _ _ t460 _ _ t461 t462 t471 t472 _ (Sq.r HO464) (Sq.n HO464) (Sq.r HO466) (Sq.n HO466) A23.out).mono ?_); rintro e w50 ⟨v473, rfl, ho0, hb⟩; have HO474 := Sq.L (Sq.N ho0 HO470) HB; replace HO404 := Sq.T HO404 hb; replace HO408 := Sq.T HO408 hb; replace HO412 := Sq.T HO412 hb; replace HO416 := Sq.T HO416 hb; replace HO420 := Sq.T HO420 hb; replace HO424 := Sq.T HO424 hb; replace HO428 := Sq.T HO428 hb; replace HO431 := Sq.T HO431 hb; replace HO435 := Sq.T HO435 hb; replace HO442 := Sq.T HO442 hb; replace HO447 := Sq.T HO447 hb; replace HO451 := Sq.T HO451 hb; replace HO455 := Sq.T HO455 hb; replace HO459 := Sq.T HO459 hb; replace HO464 := Sq.T HO464 hb; replace HO466 := Sq.T HO466 hb; replace HO470 := Sq.E HO470 ho0 hb; replace HB := Sq.S HB hb; clear hb ho0)); go_upto_region 21 with (first | (go_at_call 6; (with_reducible refine (laws_vBig.calls _ _ l0 false _ (Sq.C (HR0.out)) HC0.out A2.out).mono ?_); rintro e w' ⟨rfl, ⟨nd, rfl⟩⟩; (try first | exact ⟨rfl, _, Sq.dd⟩ | exact ⟨rfl, _, Sq.de⟩)) | (go_at_call 28; (with_reducible refine (spec_DrawHowToWeigh.calls k _ _ l0 t401 t402 _ (Sq.C (HR0.out)) HC0.out A4.out).mono ?_); rintro e w25 ⟨v403, rfl, ho0, hb⟩; have HO404 := Sq.L ho0 HB; replace HB := Sq.S HB hb; clear hb ho0; obtain ⟨Ao26, co26, rfl⟩ := Kd.R_slice HO404.out) | (go_at_call 29; (with_reducible refine (impl_HowToWeigh.calls k _ _ t401 t402 t405 t406 _ (Sq.r HO404) (Sq.n HO404) A5.out).mono ?_); rintro e w27 ⟨v407, rfl, ho0, hb⟩; have HO408 := Sq.L (Sq.N ho0 HO404) HB; replace HO404 := Sq.E HO404 ho0 hb; replace HB := Sq.S HB hb; clear hb ho0) | (go_at_call 30; (with_reducible refine (spec_HowToWeigh.calls k _ _ t401 t402 t409 t410 _ (Sq.r HO404) (Sq.n HO404) A6.out).mono ?_); rintro e w28 ⟨v411, rfl, ho0, hb⟩; have HO412 := Sq.L (Sq.N (Sq.N ho0 HO404) HO408) HB; replace HO404 := Sq.E HO404 ho0 hb; replace HO408 := Sq.E HO408 ho0 hb; replace HB := Sq.S HB hb; clear hb ho0) | (go_at_call 31; (with_reducible refine (impl_WeighOne.calls k _ _ t401 t413 t414 _ (Sq.r HO404) (Sq.n HO404) A7.out).mono ?_); rintro e w29 ⟨v415, rfl, ho0, hb⟩; have HO416 := Sq.L (Sq.N (Sq.N (Sq.N ho0 HO404) HO408) HO412) HB; replace HO404 := Sq.E HO404 ho0 hb; replace HO408 := Sq.E HO408 ho0 hb; replace HO412 := Sq.E HO412 ho0 hb; replace HB := Sq.S HB hb; clear hb ho0) | (go_at_call 32; (with_reducible refine (spec_WeighOne.calls k _ _ t401 t417 t418 _ (Sq.r HO404) (Sq.n HO404) A8.out).mono ?_); rintro e w30 ⟨v419, rfl, ho0, hb⟩; have HO420 := Sq.L (Sq.N (Sq.N (Sq.N (Sq.N ho0 HO404) HO408) HO412) HO416) HB; replace HO404 := Sq.E HO404 ho0 hb; replace HO408 := Sq.E HO408 ho0 hb; replace HO412 := Sq.E HO412 ho0 hb; replace HO416 := Sq.E HO416 ho0 hb; replace HB := Sq.S HB hb; clear hb ho0) | (go_at_call 33; (with_reducible refine (impl_WeighTwo.calls k _ _ t401 t421 t422 _ (Sq.r HO404) (Sq.n HO404) A9.out).mono ?_); rintro e w31 ⟨v423, rfl, ho0, hb⟩; have HO424 := Sq.L (Sq.N (Sq.N (Sq.N (Sq.N (Sq.N ho0 HO404) HO408) HO412) HO416) HO420) HB; replace HO404 := Sq.E HO404 ho0 hb; replace HO408 := Sq.E HO408 ho0 hb; replace HO412 := Sq.E HO412 ho0 hb; replace HO416 := Sq.E HO416 ho0 hb; replace HO420 := Sq.E HO420 ho0 hb; replace HB := Sq.S HB hb; clear hb ho0) | (go_at_call 34; (with_reducible refine (spec_WeighTwo.calls k _ _ t401 t425 t426 _ (Sq.r HO404) (Sq.n HO404) A10.out).mono ?_); rintro e w32 ⟨v427, rfl, ho0, hb⟩; have HO428 := Sq.L (Sq.N (Sq.N (Sq.N (Sq.N (Sq.N (Sq.N ho0 HO404) HO408) HO412) HO416) HO420) HO424) HB; replace HO404 := Sq.E HO404 ho0 hb; replace HO408 := Sq.E HO408 ho0 hb; replace HO412 := Sq.E HO412 ho0 hb; replace HO416 := Sq.E HO416 ho0 hb; replace HO420 := Sq.E HO420 ho0 hb; replace HO424 := Sq.E HO424 ho0 hb; replace HB := Sq.S HB hb; clear hb ho0) | (go_at_call 11; (with_reducible refine (laws_vCut.calls _ _ l0 1 t429 _ (Sq.C ((Kd.C_below HR0.out HB.out))) HC0.out A11.out).mono ?_); rintro e w33 ⟨v430, rfl, ho0, hb⟩; have HO431 := Sq.L ho0 HB; replace HO404 := Sq.T HO404 hb; replace HO408 := Sq.T HO408 hb; replace HO412 := Sq.T HO412 hb; replace HO416 := Sq.T HO416 hb; replace HO420 := Sq.T HO420 hb; replace HO424 := Sq.T HO424 hb; replace HO428 := Sq.T HO428 hb; replace HB := Sq.S HB hb; clear hb ho0; obtain ⟨Ao34, co34, rfl⟩ := Kd.R_slice HO431.out) | (go_at_call 35; (with_reducible refine (spec_DrawKitRange.calls k _ _ t429 t432 t433 _ (Sq.r HO431) (Sq.n HO431) A12.out).mono ?_); rintro e w35 ⟨v434, rfl, ho0, hb⟩; have HO435 := Sq.L (Sq.N (Sq.N (Sq.N (Sq.N (Sq.N (Sq.N (Sq.N ho0 HO404) HO408) HO412) HO416) HO420) HO424) HO428) HB; replace HO404 := Sq.E HO404 ho0 hb; replace HO408 := Sq.E HO408 ho0 hb; replace HO412 := Sq.E HO412 ho0 hb; replace HO416 := Sq.E HO416 ho0 hb; replace HO420 := Sq.E HO420 ho0 hb; replace HO424 := Sq.E HO424 ho0 hb; replace HO428 := Sq.E HO428 ho0 hb; replace HO431 := Sq.T HO431 hb; replace HB := Sq.S HB hb; clear hb ho0; obtain ⟨Ao36, co36, rfl⟩ := Kd.R_slice HO435.out) | (go_at_call 36; (with_reducible refine (impl_KitRange.calls k _ _ t432 t433 t436 t437 _ (Sq.r HO435) (Sq.n HO435) A13.out).mono ?_); rintro e w37 ⟨rfl, hb⟩; replace HO404 := Sq.T HO404 hb; replace HO408 := Sq.T HO408 hb; replace HO412 := Sq.T HO412 hb; replace HO416 := Sq.T HO416 hb; replace HO420 := Sq.T HO420 hb; replace HO424 := Sq.T HO424 hb; replace HO428 := Sq.T HO428 hb; replace HO431 := Sq.T HO431 hb; replace HO435 := Sq.T HO435 hb; replace HB := Sq.S HB hb; clear hb) | (go_at_call 37; (with_reducible refine (spec_KitRange.calls k _ _ t432 t433 t438 t439 _ (Sq.r HO435) (Sq.n HO435) A14.out).mono ?_); rintro e w38 ⟨rfl, hb⟩; replace HO404 := Sq.T HO404 hb; replace HO408 := Sq.T HO408 hb; replace HO412 := Sq.T HO412 hb; replace HO416 := Sq.T HO416 hb; replace HO420 := Sq.T HO420 hb; replace HO424 := Sq.T HO424 hb; replace HO428 := Sq.T HO428 hb; replace HO431 := Sq.T HO431 hb; replace HO435 := Sq.T HO435 hb; replace HB := Sq.S HB hb; clear hb) | (go_at_call 11; (with_reducible refine (laws_vCut.calls _ _ l0 2 t440 _ (Sq.C ((Kd.C_below HR0.out HB.out))) HC0.out A15.out).mono ?_); rintro e w39 ⟨v441, rfl, ho0, hb⟩; have HO442 := Sq.L (Sq.N ho0 HO431) HB; replace HO404 := Sq.T HO404 hb; replace HO408 := Sq.T HO408 hb; replace HO412 := Sq.T HO412 hb; replace HO416 := Sq.T HO416 hb; replace HO420 := Sq.T HO420 hb; replace HO424 := Sq.T HO424 hb; replace HO428 := Sq.T HO428 hb; replace HO431 := Sq.E HO431 ho0 hb; replace HO435 := Sq.T HO435 hb; replace HB := Sq.S HB hb; clear hb ho0; obtain ⟨Ao40, co40, rfl⟩ := Kd.R_slice HO442.out) | (go_at_call 38; (with_reducible refine (spec_DrawThreesKit.calls _ _ t440 t443 _ (Sq.r HO442) (Sq.n HO442) A16.out).mono ?_); rintro e w41 ⟨rfl, hb⟩; replace HO404 := Sq.T HO404 hb; replace HO408 := Sq.T HO408 hb; replace HO412 := Sq.T HO412 hb; replace HO416 := Sq.T HO416 hb; replace HO420 := Sq.T HO420 hb; replace HO424 := Sq.T HO424 hb; replace HO428 := Sq.T HO428 hb; replace HO431 := Sq.T HO431 hb; replace HO435 := Sq.T HO435 hb; replace HO442 := Sq.T HO442 hb; replace HB := Sq.S HB hb; clear hb) | (go_at_call 39; (with_reducible refine (impl_ThreesKit.calls k t443 t444 t445 _ A17.out).mono ?_); rintro e w42 ⟨v446, rfl, ho0, hb⟩; have HO447 := Sq.L (Sq.N (Sq.N (Sq.N (Sq.N (Sq.N (Sq.N (Sq.N (Sq.N ho0 HO404) HO408) HO412) HO416) HO420) HO424) HO428) HO435) HB; replace HO404 := Sq.E HO404 ho0 hb; replace HO408 := Sq.E HO408 ho0 hb; replace HO412 := Sq.E HO412 ho0 hb; replace HO416 := Sq.E HO416 ho0 hb; replace HO420 := Sq.E HO420 ho0 hb; replace HO424 := Sq.E HO424 ho0 hb; replace HO428 := Sq.E HO428 ho0 hb; replace HO431 := Sq.T HO431 hb; replace HO435 := Sq.E HO435 ho0 hb; replace HO442 := Sq.T HO442 hb; replace HB := Sq.S HB hb; clear hb ho0) | (go_at_call 40; (with_reducible refine (spec_ThreesKit.calls k t443 t448 t449 _ A18.out).mono ?_); rintro e w43 ⟨v450, rfl, ho0, hb⟩; have HO451 := Sq.L (Sq.N (Sq.N (Sq.N (Sq.N (Sq.N (Sq.N (Sq.N (Sq.N (Sq.N ho0 HO404) HO408) HO412) HO416) HO420) HO424) HO428) HO435) HO447) HB; replace HO404 := Sq.E HO404 ho0 hb; replace HO408 := Sq.E HO408 ho0 hb; replace HO412 := Sq.E HO412 ho0 hb; replace HO416 := Sq.E HO416 ho0 hb; replace HO420 := Sq.E HO420 ho0 hb; replace HO424 := Sq.E HO424 ho0 hb; replace HO428 := Sq.E HO428 ho0 hb; replace HO431 := Sq.T HO431 hb; replace HO435 := Sq.E HO435 ho0 hb; replace HO442 := Sq.T HO442 hb; replace HO447 := Sq.E HO447 ho0 hb; replace HB := Sq.S HB hb; clear hb ho0) | (go_at_call 41; (with_reducible refine (impl_TwosKit.calls k t443 t452 t453 _ A19.out).mono ?_); rintro e w44 ⟨v454, rfl, ho0, hb⟩; have HO455 := Sq.L (Sq.N (Sq.N (Sq.N (Sq.N (Sq.N (Sq.N (Sq.N (Sq.N (Sq.N (Sq.N ho0 HO404) HO408) HO412) HO416) HO420) HO424) HO428) HO435) HO447) HO451) HB; replace HO404 := Sq.E HO404 ho0 hb; replace HO408 := Sq.E HO408 ho0 hb; replace HO412 := Sq.E HO412 ho0 hb; replace HO416 := Sq.E HO416 ho0 hb; replace HO420 := Sq.E HO420 ho0 hb; replace HO424 := Sq.E HO424 ho0 hb; replace HO428 := Sq.E HO428 ho0 hb; replace HO431 := Sq.T HO431 hb; replace HO435 := Sq.E HO435 ho0 hb; replace HO442 := Sq.T HO442 hb; replace HO447 := Sq.E HO447 ho0 hb; replace HO451 := Sq.E HO451 ho0 hb; replace HB := Sq.S HB hb; clear hb ho0) | (go_at_call 42; (with_reducible refine (spec_TwosKit.calls k t443 t456 t457 _ A20.out).mono ?_); rintro e w45 ⟨v458, rfl, ho0, hb⟩; have HO459 := Sq.L (Sq.N (Sq.N (Sq.N (Sq.N (Sq.N (Sq.N (Sq.N (Sq.N (Sq.N (Sq.N (Sq.N ho0 HO404) HO408) HO412) HO416) HO420) HO424) HO428) HO435) HO447) HO451) HO455) HB; replace HO404 := Sq.E HO404 ho0 hb; replace HO408 := Sq.E HO408 ho0 hb; replace HO412 := Sq.E HO412 ho0 hb; replace HO416 := Sq.E HO416 ho0 hb; replace HO420 := Sq.E HO420 ho0 hb; replace HO424 := Sq.E HO424 ho0 hb; replace HO428 := Sq.E HO428 ho0 hb; replace HO431 := Sq.T HO431 hb; replace HO435 := Sq.E HO435 ho0 hb; replace HO442 := Sq.T HO442 hb; replace HO447 := Sq.E HO447 ho0 hb; replace HO451 := Sq.E HO451 ho0 hb; replace HO455 := Sq.E HO455 ho0 hb; replace HB := Sq.S HB hb; clear hb ho0) | (go_at_call 43; (with_reducible refine (spec_DrawPanRow.calls k _ _ l0 t460 t461 t462 _ (Sq.C ((Kd.C_below HR0.out HB.out))) HC0.out A21.out).mono ?_); rintro e w46 ⟨v463, v465, rfl, ho0, ho1, hb⟩; have HO464 := Sq.L (Sq.N (Sq.N (Sq.N (Sq.N (Sq.N (Sq.N (Sq.N (Sq.N (Sq.N (Sq.N (Sq.N (Sq.N ho0 HO404) HO408) HO412) HO416) HO420) HO424) HO428) HO435) HO447) HO451) HO455) HO459) HB; have HO466 := Sq.L (Sq.N (Sq.N (Sq.N (Sq.N (Sq.N (Sq.N (Sq.N (Sq.N (Sq.N (Sq.N (Sq.N (Sq.N ho1 HO404) HO408) HO412) HO416) HO420) HO424) HO428) HO435) HO447) HO451) HO455) HO459) HB; replace HO404 := Aside0.mk (Kd.R_mono (Kd.R_told (Kd.R_told (Kd.R_old (Sq.R HO404) hb) (Kd.R_base ho0)) (Kd.R_base ho1)) (fun _ h_ => h_.1)); replace HO408 := Aside0.mk (Kd.R_mono (Kd.R_told (Kd.R_told (Kd.R_old (Sq.R HO408) hb) (Kd.R_base ho0)) (Kd.R_base ho1)) (fun _ h_ => h_.1)); replace HO412 := Aside0.mk (Kd.R_mono (Kd.R_told (Kd.R_told (Kd.R_old (Sq.R HO412) hb) (Kd.R_base ho0)) (Kd.R_base ho1)) (fun _ h_ => h_.1)); replace HO416 := Aside0.mk (Kd.R_mono (Kd.R_told (Kd.R_told (Kd.R_old (Sq.R HO416) hb) (Kd.R_base ho0)) (Kd.R_base ho1)) (fun _ h_ => h_.1)); replace HO420 := Aside0.mk (Kd.R_mono (Kd.R_told (Kd.R_told (Kd.R_old (Sq.R HO420) hb) (Kd.R_base ho0)) (Kd.R_base ho1)) (fun _ h_ => h_.1)); replace HO424 := Aside0.mk (Kd.R_mono (Kd.R_told (Kd.R_told (Kd.R_old (Sq.R HO424) hb) (Kd.R_base ho0)) (Kd.R_base ho1)) (fun _ h_ => h_.1)); replace HO428 := Aside0.mk (Kd.R_mono (Kd.R_told (Kd.R_told (Kd.R_old (Sq.R HO428) hb) (Kd.R_base ho0)) (Kd.R_base ho1)) (fun _ h_ => h_.1)); replace HO431 := Sq.T HO431 hb; replace HO435 := Aside0.mk (Kd.R_mono (Kd.R_told (Kd.R_told (Kd.R_old (Sq.R HO435) hb) (Kd.R_base ho0)) (Kd.R_base ho1)) (fun _ h_ => h_.1)); replace HO442 := Sq.T HO442 hb; replace HO447 := Aside0.mk (Kd.R_mono (Kd.R_told (Kd.R_told (Kd.R_old (Sq.R HO447) hb) (Kd.R_base ho0)) (Kd.R_base ho1)) (fun _ h_ => h_.1)); replace HO451 := Aside0.mk (Kd.R_mono (Kd.R_told (Kd.R_told (Kd.R_old (Sq.R HO451) hb) (Kd.R_base ho0)) (Kd.R_base ho1)) (fun _ h_ => h_.1)); replace HO455 := Aside0.mk (Kd.R_mono (Kd.R_told (Kd.R_told (Kd.R_old (Sq.R HO455) hb) (Kd.R_base ho0)) (Kd.R_base ho1)) (fun _ h_ => h_.1)); replace HO459 := Aside0.mk (Kd.R_mono (Kd.R_told (Kd.R_told (Kd.R_old (Sq.R HO459) hb) (Kd.R_base ho0)) (Kd.R_base ho1)) (fun _ h_ => h_.1)); replace HB := Sq.S HB hb; clear hb ho0 ho1; obtain ⟨Ao47, co47, rfl⟩ := Kd.R_slice HO464.out; obtain ⟨Ao48, co48, rfl⟩ := Kd.R_slice HO466.out) | (go_at_call 44; (with_reducible refine (impl_PanRow.calls k _ _ t460 _ _ t461 t462 t467 t468 _ (Sq.r HO464) (Sq.n HO464) (Sq.r HO466) (Sq.n HO466) A22.out).mono ?_); rintro e w49 ⟨v469, rfl, ho0, hb⟩; have HO470 := Sq.L ho0 HB; replace HO404 := Sq.T HO404 hb; replace HO408 := Sq.T HO408 hb; replace HO412 := Sq.T HO412 hb; replace HO416 := Sq.T HO416 hb; replace HO420 := Sq.T HO420 hb; replace HO424 := Sq.T HO424 hb; replace HO428 := Sq.T HO428 hb; replace HO431 := Sq.T HO431 hb; replace HO435 := Sq.T HO435 hb; replace HO442 := Sq.T HO442 hb; replace HO447 := Sq.T HO447 hb; replace HO451 := Sq.T HO451 hb; replace HO455 := Sq.T HO455 hb; replace HO459 := Sq.T HO459 hb; replace HO464 := Sq.T HO464 hb; replace HO466 := Sq.T HO466 hb; replace HB := Sq.S HB hb; clear hb ho0) | (go_at_call 45; (with_reducible refine (spec_PanRow.calls k _ _ t460 _ _ t461 t462 t471 t472 _ (Sq.r HO464) (Sq.n HO464) (Sq.r HO466) (Sq.n HO466) A23.out).mono ?_); rintro e w50 ⟨v473, rfl, ho0, hb⟩; have HO474 := Sq.L (Sq.N ho0 HO470) HB; replace HO404 := Sq.T HO404 hb; replace HO408 := Sq.T HO408 hb; replace HO412 := Sq.T HO412 hb; replace HO416 := Sq.T HO416 hb; replace HO420 := Sq.T HO420 hb; replace HO424 := Sq.T HO424 hb; replace HO428 := Sq.T HO428 hb; replace HO431 := Sq.T HO431 hb; replace HO435 := Sq.T HO435 hb; replace HO442 := Sq.T HO442 hb; replace HO447 := Sq.T HO447 hb; replace HO451 := Sq.T HO451 hb; replace HO455 := Sq.T HO455 hb; replace HO459 := Sq.T HO459 hb; replace HO464 := Sq.T HO464 hb; replace HO466 := Sq.T HO466 hb; replace HO470 := Sq.E HO470 ho0 hb; replace HB := Sq.S HB hb; clear hb ho0)))
  (try simp only [Act.put, List.setIfInBounds_toArray, List.set_cons_zero, List.set_cons_succ])
  go_cut [246] (fun v246 wc => ∃ (kq : Nat) (x246_23 : Bool), v246 = .bool x246_23 ∧ Aside0 (laws_FnKits.j0 kq t401 t402 t405 t406 t413 t414 t421 t432 t433 t436 t437 t443 t444 t445 t452 t453 t460 t461 t462 t467 t468 x246_23 = some r) ∧ Aside0 (kq ≤ k) ∧ Aside0 (Kd.R (Kd.int .i64) 3 wc w.heap.size (fun k_ => some k_ ≠ (v407 : Value).ownBlock ∧ some k_ ≠ (v415 : Value).ownBlock ∧ some k_ ≠ (v423 : Value).ownBlock ∧ some k_ ≠ ((.slice Ao36 t432.length co36) : Value).ownBlock ∧ some k_ ≠ (v446 : Value).ownBlock ∧ some k_ ≠ (v454 : Value).ownBlock ∧ some k_ ≠ ((.slice Ao47 t460.length co47) : Value).ownBlock ∧ some k_ ≠ ((.slice Ao48 t461.length co48) : Value).ownBlock) (.slice Ao26 t401.length co26) t401) ∧ Aside0 (Kd.R (Kd.int .i64) 3 wc w.heap.size (fun k_ => some k_ ≠ ((.slice Ao26 t401.length co26) : Value).ownBlock ∧ some k_ ≠ (v415 : Value).ownBlock ∧ some k_ ≠ (v423 : Value).ownBlock ∧ some k_ ≠ ((.slice Ao36 t432.length co36) : Value).ownBlock ∧ some k_ ≠ (v446 : Value).ownBlock ∧ some k_ ≠ (v454 : Value).ownBlock ∧ some k_ ≠ ((.slice Ao47 t460.length co47) : Value).ownBlock ∧ some k_ ≠ ((.slice Ao48 t461.length co48) : Value).ownBlock) v407 t405) ∧ Aside0 (Kd.R (Kd.int .i64) 3 wc w.heap.size (fun k_ => some k_ ≠ ((.slice Ao26 t401.length co26) : Value).ownBlock ∧ some k_ ≠ (v407 : Value).ownBlock ∧ some k_ ≠ (v423 : Value).ownBlock ∧ some k_ ≠ ((.slice Ao36 t432.length co36) : Value).ownBlock ∧ some k_ ≠ (v446 : Value).ownBlock ∧ some k_ ≠ (v454 : Value).ownBlock ∧ some k_ ≠ ((.slice Ao47 t460.length co47) : Value).ownBlock ∧ some k_ ≠ ((.slice Ao48 t461.length co48) : Value).ownBlock) v415 t413) ∧ Aside0 (Kd.R (Kd.int .i64) 3 wc w.heap.size (fun k_ => some k_ ≠ ((.slice Ao26 t401.length co26) : Value).ownBlock ∧ some k_ ≠ (v407 : Value).ownBlock ∧ some k_ ≠ (v415 : Value).ownBlock ∧ some k_ ≠ ((.slice Ao36 t432.length co36) : Value).ownBlock ∧ some k_ ≠ (v446 : Value).ownBlock ∧ some k_ ≠ (v454 : Value).ownBlock ∧ some k_ ≠ ((.slice Ao47 t460.length co47) : Value).ownBlock ∧ some k_ ≠ ((.slice Ao48 t461.length co48) : Value).ownBlock) v423 t421) ∧ Aside0 (Kd.R (Kd.int .i64) 3 wc w.heap.size (fun k_ => some k_ ≠ ((.slice Ao26 t401.length co26) : Value).ownBlock ∧ some k_ ≠ (v407 : Value).ownBlock ∧ some k_ ≠ (v415 : Value).ownBlock ∧ some k_ ≠ (v423 : Value).ownBlock ∧ some k_ ≠ (v446 : Value).ownBlock ∧ some k_ ≠ (v454 : Value).ownBlock ∧ some k_ ≠ ((.slice Ao47 t460.length co47) : Value).ownBlock ∧ some k_ ≠ ((.slice Ao48 t461.length co48) : Value).ownBlock) (.slice Ao36 t432.length co36) t432) ∧ Aside0 (Kd.R (Kd.int .i64) 3 wc w.heap.size (fun k_ => some k_ ≠ ((.slice Ao26 t401.length co26) : Value).ownBlock ∧ some k_ ≠ (v407 : Value).ownBlock ∧ some k_ ≠ (v415 : Value).ownBlock ∧ some k_ ≠ (v423 : Value).ownBlock ∧ some k_ ≠ ((.slice Ao36 t432.length co36) : Value).ownBlock ∧ some k_ ≠ (v454 : Value).ownBlock ∧ some k_ ≠ ((.slice Ao47 t460.length co47) : Value).ownBlock ∧ some k_ ≠ ((.slice Ao48 t461.length co48) : Value).ownBlock) v446 t444) ∧ Aside0 (Kd.R (Kd.int .i64) 3 wc w.heap.size (fun k_ => some k_ ≠ ((.slice Ao26 t401.length co26) : Value).ownBlock ∧ some k_ ≠ (v407 : Value).ownBlock ∧ some k_ ≠ (v415 : Value).ownBlock ∧ some k_ ≠ (v423 : Value).ownBlock ∧ some k_ ≠ ((.slice Ao36 t432.length co36) : Value).ownBlock ∧ some k_ ≠ (v446 : Value).ownBlock ∧ some k_ ≠ ((.slice Ao47 t460.length co47) : Value).ownBlock ∧ some k_ ≠ ((.slice Ao48 t461.length co48) : Value).ownBlock) v454 t452) ∧ Aside0 (Kd.R (Kd.int .i64) 3 wc w.heap.size (fun k_ => some k_ ≠ ((.slice Ao26 t401.length co26) : Value).ownBlock ∧ some k_ ≠ (v407 : Value).ownBlock ∧ some k_ ≠ (v415 : Value).ownBlock ∧ some k_ ≠ (v423 : Value).ownBlock ∧ some k_ ≠ ((.slice Ao36 t432.length co36) : Value).ownBlock ∧ some k_ ≠ (v446 : Value).ownBlock ∧ some k_ ≠ (v454 : Value).ownBlock ∧ some k_ ≠ ((.slice Ao48 t461.length co48) : Value).ownBlock) (.slice Ao47 t460.length co47) t460) ∧ Aside0 (Kd.R (Kd.int .i64) 3 wc w.heap.size (fun k_ => some k_ ≠ ((.slice Ao26 t401.length co26) : Value).ownBlock ∧ some k_ ≠ (v407 : Value).ownBlock ∧ some k_ ≠ (v415 : Value).ownBlock ∧ some k_ ≠ (v423 : Value).ownBlock ∧ some k_ ≠ ((.slice Ao36 t432.length co36) : Value).ownBlock ∧ some k_ ≠ (v446 : Value).ownBlock ∧ some k_ ≠ (v454 : Value).ownBlock ∧ some k_ ≠ ((.slice Ao47 t460.length co47) : Value).ownBlock) (.slice Ao48 t461.length co48) t461) ∧ Aside0 (Kd.R k96 96 wc w.heap.size (fun _ => True) v469 t467) ∧ Aside0 (Below w.heap.size w wc))
  case first =>
   have H := HC24.out
   clear HC24
   by_cases c51 : (t406 != t410) = true
   ·rw [if_pos c51] at H
    have c51b0 : (t406 != t410) = true := c51
    (try (have c51b1 : decide (t406 = t410) = false := by simpa using c51))
    (try (have c51b2 : (t406 == t410) = false := by simpa using c51))
    (try (have c51b3 : ¬ (t406 = t410) := by simpa using c51))
    clear c51
    (first | rw [c51b0] | (simp only [i64_w, i32_w]; rw [c51b0]) | skip)
    exact (laws_FnKits.j0_bad _ H hr).elim
   rw [if_neg c51] at H
   have c51b0 : (t406 != t410) = false := by simpa using c51
   (try (have c51b1 : decide (t406 = t410) = true := by simpa using c51))
   (try (have c51b2 : (t406 == t410) = true := by simpa using c51))
   clear c51
   (first | rw [c51b0] | (simp only [i64_w, i32_w]; rw [c51b0]) | skip)
   replace H := Option.bind_eq_some_iff.mp H
   obtain ⟨t475, A520, H⟩ := H
   try dsimp only at H
   have A52 := Aside0.mk A520
   clear A520
   by_cases c53 : t475 = true
   rotate_left
   ·replace c53 := Bool.eq_false_iff.mpr c53
    subst c53
    rw [if_neg (show ¬ (false = true) by decide)] at H
    exact (laws_FnKits.j0_bad _ H hr).elim
   subst c53
   rw [if_pos rfl] at H
   by_cases c54 : (t414 != t418) = true
   ·rw [if_pos c54] at H
    have c54b0 : (t414 != t418) = true := c54
    (try (have c54b1 : decide (t414 = t418) = false := by simpa using c54))
    (try (have c54b2 : (t414 == t418) = false := by simpa using c54))
    (try (have c54b3 : ¬ (t414 = t418) := by simpa using c54))
    clear c54
    exact (laws_FnKits.j0_bad _ H hr).elim
   rw [if_neg c54] at H
   have c54b0 : (t414 != t418) = false := by simpa using c54
   (try (have c54b1 : decide (t414 = t418) = true := by simpa using c54))
   (try (have c54b2 : (t414 == t418) = true := by simpa using c54))
   clear c54
   replace H := Option.bind_eq_some_iff.mp H
   obtain ⟨t476, A550, H⟩ := H
   try dsimp only at H
   have A55 := Aside0.mk A550
   clear A550
   by_cases c56 : t476 = true
   rotate_left
   ·replace c56 := Bool.eq_false_iff.mpr c56
    subst c56
    rw [if_neg (show ¬ (false = true) by decide)] at H
    exact (laws_FnKits.j0_bad _ H hr).elim
   subst c56
   rw [if_pos rfl] at H
   by_cases c57 : (t422 != t426) = true
   ·rw [if_pos c57] at H
    have c57b0 : (t422 != t426) = true := c57
    (try (have c57b1 : decide (t422 = t426) = false := by simpa using c57))
    (try (have c57b2 : (t422 == t426) = false := by simpa using c57))
    (try (have c57b3 : ¬ (t422 = t426) := by simpa using c57))
    clear c57
    exact (laws_FnKits.j0_bad _ H hr).elim
   rw [if_neg c57] at H
   have c57b0 : (t422 != t426) = false := by simpa using c57
   (try (have c57b1 : decide (t422 = t426) = true := by simpa using c57))
   (try (have c57b2 : (t422 == t426) = true := by simpa using c57))
   clear c57
   replace H := Option.bind_eq_some_iff.mp H
   obtain ⟨t477, A580, H⟩ := H
   try dsimp only at H
   have A58 := Aside0.mk A580
   clear A580
   by_cases c59 : t477 = true
   rotate_left
   ·replace c59 := Bool.eq_false_iff.mpr c59
    subst c59
    rw [if_neg (show ¬ (false = true) by decide)] at H
    exact (laws_FnKits.j0_bad _ H hr).elim
   subst c59
   rw [if_pos rfl] at H
   by_cases c60 : t436 = t438
   rotate_left
   ·rw [if_neg c60] at H
    have c60b0 : (t436 == t438) = false := beq_eq_false_iff_ne.mpr c60
    have c60b1 : (t436 != t438) = true := bne_iff_ne.mpr c60
    exact (laws_FnKits.j0_bad _ H hr).elim
   rw [if_pos c60] at H
   have c60b0 : (t436 == t438) = true := beq_iff_eq.mpr c60
   have c60b1 : (t436 != t438) = false := bne_eq_false_iff_eq.mpr c60
   clear c60
   by_cases c61 : (t437 != t439) = true
   ·rw [if_pos c61] at H
    have c61b0 : (t437 != t439) = true := c61
    (try (have c61b1 : decide (t437 = t439) = false := by simpa using c61))
    (try (have c61b2 : (t437 == t439) = false := by simpa using c61))
    (try (have c61b3 : ¬ (t437 = t439) := by simpa using c61))
    clear c61
    exact (laws_FnKits.j0_bad _ H hr).elim
   rw [if_neg c61] at H
   have c61b0 : (t437 != t439) = false := by simpa using c61
   (try (have c61b1 : decide (t437 = t439) = true := by simpa using c61))
   (try (have c61b2 : (t437 == t439) = true := by simpa using c61))
   clear c61
   by_cases c62 : (t445 != t449) = true
   ·rw [if_pos c62] at H
    have c62b0 : (t445 != t449) = true := c62
    (try (have c62b1 : decide (t445 = t449) = false := by simpa using c62))
    (try (have c62b2 : (t445 == t449) = false := by simpa using c62))
    (try (have c62b3 : ¬ (t445 = t449) := by simpa using c62))
    clear c62
    exact (laws_FnKits.j0_bad _ H hr).elim
   rw [if_neg c62] at H
   have c62b0 : (t445 != t449) = false := by simpa using c62
   (try (have c62b1 : decide (t445 = t449) = true := by simpa using c62))
   (try (have c62b2 : (t445 == t449) = true := by simpa using c62))
   clear c62
   replace H := Option.bind_eq_some_iff.mp H
   obtain ⟨t478, A630, H⟩ := H
   try dsimp only at H
   have A63 := Aside0.mk A630
   clear A630
   by_cases c64 : t478 = true
   rotate_left
   ·replace c64 := Bool.eq_false_iff.mpr c64
    subst c64
    rw [if_neg (show ¬ (false = true) by decide)] at H
    exact (laws_FnKits.j0_bad _ H hr).elim
   subst c64
   rw [if_pos rfl] at H
   by_cases c65 : (t453 != t457) = true
   ·rw [if_pos c65] at H
    have c65b0 : (t453 != t457) = true := c65
    (try (have c65b1 : decide (t453 = t457) = false := by simpa using c65))
    (try (have c65b2 : (t453 == t457) = false := by simpa using c65))
    (try (have c65b3 : ¬ (t453 = t457) := by simpa using c65))
    clear c65
    exact (laws_FnKits.j0_bad _ H hr).elim
   rw [if_neg c65] at H
   have c65b0 : (t453 != t457) = false := by simpa using c65
   (try (have c65b1 : decide (t453 = t457) = true := by simpa using c65))
   (try (have c65b2 : (t453 == t457) = true := by simpa using c65))
   clear c65
   replace H := Option.bind_eq_some_iff.mp H
   obtain ⟨t479, A660, H⟩ := H
   try dsimp only at H
   have A66 := Aside0.mk A660
   clear A660
   by_cases c67 : t479 = true
   rotate_left
   ·replace c67 := Bool.eq_false_iff.mpr c67
    subst c67
    rw [if_neg (show ¬ (false = true) by decide)] at H
    exact (laws_FnKits.j0_bad _ H hr).elim
   subst c67
   rw [if_pos rfl] at H
   by_cases c68 : (t468 != t472) = true
   ·rw [if_pos c68] at H
    have c68b0 : (t468 != t472) = true := c68
    (try (have c68b1 : decide (t468 = t472) = false := by simpa using c68))
    (try (have c68b2 : (t468 == t472) = false := by simpa using c68))
    (try (have c68b3 : ¬ (t468 = t472) := by simpa using c68))
    clear c68
    exact (laws_FnKits.j0_bad _ H hr).elim
   rw [if_neg c68] at H
   have c68b0 : (t468 != t472) = false := by simpa using c68
   (try (have c68b1 : decide (t468 = t472) = true := by simpa using c68))
   (try (have c68b2 : (t468 == t472) = true := by simpa using c68))
   clear c68
   replace H := Option.bind_eq_some_iff.mp H
   obtain ⟨t480, A690, H⟩ := H
   try dsimp only at H
   have A69 := Aside0.mk A690
   clear A690
   by_cases c70 : t480 = true
   rotate_left
   ·replace c70 := Bool.eq_false_iff.mpr c70
    subst c70
    rw [if_neg (show ¬ (false = true) by decide)] at H
    exact (laws_FnKits.j0_bad _ H hr).elim
   subst c70
   rw [if_pos rfl] at H
   replace H := Option.bind_eq_some_iff.mp H
   obtain ⟨t481, A710, H⟩ := H
   try dsimp only at H
   have A71 := Aside0.mk A710
   clear A710
   replace H := Option.bind_eq_some_iff.mp H
   obtain ⟨t482, A720, H⟩ := H
   try dsimp only at H
   have A72 := Aside0.mk A720
   clear A720
   by_cases c73 : (t481 != t482) = true
   ·rw [if_pos c73] at H
    have c73b0 : (t481 != t482) = true := c73
    (try (have c73b1 : decide (t481 = t482) = false := by simpa using c73))
    (try (have c73b2 : (t481 == t482) = false := by simpa using c73))
    (try (have c73b3 : ¬ (t481 = t482) := by simpa using c73))
    clear c73
    exact (laws_FnKits.j0_bad _ H hr).elim
   rw [if_neg c73] at H
   have c73b0 : (t481 != t482) = false := by simpa using c73
   (try (have c73b1 : decide (t481 = t482) = true := by simpa using c73))
   (try (have c73b2 : (t481 == t482) = true := by simpa using c73))
   clear c73
   replace H := Option.bind_eq_some_iff.mp H
   obtain ⟨t483, A740, H⟩ := H
   try dsimp only at H
   have A74 := Aside0.mk A740
   clear A740
   by_cases c75 : (t414 != t483) = true
   ·rw [if_pos c75] at H
    have c75b0 : (t414 != t483) = true := c75
    (try (have c75b1 : decide (t414 = t483) = false := by simpa using c75))
    (try (have c75b2 : (t414 == t483) = false := by simpa using c75))
    (try (have c75b3 : ¬ (t414 = t483) := by simpa using c75))
    clear c75
    exact (laws_FnKits.j0_bad _ H hr).elim
   rw [if_neg c75] at H
   have c75b0 : (t414 != t483) = false := by simpa using c75
   (try (have c75b1 : decide (t414 = t483) = true := by simpa using c75))
   (try (have c75b2 : (t414 == t483) = true := by simpa using c75))
   clear c75
   have ek_ : t483 = t481 := Option.some.inj (A74.out.symm.trans A71.out)
   try rw [ek_] at c75b0
   try rw [ek_] at c75b1
   try rw [ek_] at c75b2
   clear ek_
   as_aux_lemma =>
    have H' := Aside0.mk H
    clear H
    obtain ⟨Ao76, co76, rfl⟩ := Kd.R_slice HO408.out
    obtain ⟨Ao77, co77, rfl⟩ := Kd.R_slice HO412.out
    go_wp2_with (first | (go_at_call 26; (with_reducible refine (laws_vInts.calls k _ _ t405 _ _ t409 true _ (Sq.r HO408) (Sq.n HO408) (Sq.r HO412) (Sq.n HO412) A52.out).mono ?_); rintro e w' ⟨rfl, ⟨nd, rfl⟩⟩; (try first | exact ⟨rfl, _, Sq.dd⟩ | exact ⟨rfl, _, Sq.de⟩); obtain ⟨Ao78, co78, rfl⟩ := Kd.R_slice HO416.out; obtain ⟨Ao79, co79, rfl⟩ := Kd.R_slice HO420.out) | (go_at_call 26; (with_reducible refine (laws_vInts.calls k _ _ t413 _ _ t417 true _ (Sq.r HO416) (Sq.n HO416) (Sq.r HO420) (Sq.n HO420) A55.out).mono ?_); rintro e w' ⟨rfl, ⟨nd, rfl⟩⟩; (try first | exact ⟨rfl, _, Sq.dd⟩ | exact ⟨rfl, _, Sq.de⟩); obtain ⟨Ao80, co80, rfl⟩ := Kd.R_slice HO424.out; obtain ⟨Ao81, co81, rfl⟩ := Kd.R_slice HO428.out) | (go_at_call 26; (with_reducible refine (laws_vInts.calls k _ _ t421 _ _ t425 true _ (Sq.r HO424) (Sq.n HO424) (Sq.r HO428) (Sq.n HO428) A58.out).mono ?_); rintro e w' ⟨rfl, ⟨nd, rfl⟩⟩; (try first | exact ⟨rfl, _, Sq.dd⟩ | exact ⟨rfl, _, Sq.de⟩); obtain ⟨Ao82, co82, rfl⟩ := Kd.R_slice HO447.out; obtain ⟨Ao83, co83, rfl⟩ := Kd.R_slice HO451.out) | (go_at_call 26; (with_reducible refine (laws_vInts.calls k _ _ t444 _ _ t448 true _ (Sq.r HO447) (Sq.n HO447) (Sq.r HO451) (Sq.n HO451) A63.out).mono ?_); rintro e w' ⟨rfl, ⟨nd, rfl⟩⟩; (try first | exact ⟨rfl, _, Sq.dd⟩ | exact ⟨rfl, _, Sq.de⟩); obtain ⟨Ao84, co84, rfl⟩ := Kd.R_slice HO455.out; obtain ⟨Ao85, co85, rfl⟩ := Kd.R_slice HO459.out) | (go_at_call 26; (with_reducible refine (laws_vInts.calls k _ _ t452 _ _ t456 true _ (Sq.r HO455) (Sq.n HO455) (Sq.r HO459) (Sq.n HO459) A66.out).mono ?_); rintro e w' ⟨rfl, ⟨nd, rfl⟩⟩; (try first | exact ⟨rfl, _, Sq.dd⟩ | exact ⟨rfl, _, Sq.de⟩); obtain ⟨Ao86, co86, rfl⟩ := Kd.R_slice HO470.out; obtain ⟨Ao87, co87, rfl⟩ := Kd.R_slice HO474.out) | (go_at_call 46; (with_reducible refine (laws_vRow.calls k _ _ t467 _ _ t471 true _ (Sq.r HO470) (Sq.n HO470) (Sq.r HO474) (Sq.n HO474) A69.out).mono ?_); rintro e w' ⟨rfl, ⟨nd, rfl⟩⟩; (try first | exact ⟨rfl, _, Sq.dd⟩ | exact ⟨rfl, _, Sq.de⟩)) | (go_at_call 47; (with_reducible refine (impl_IsKit.calls k _ _ t401 t481 _ (Sq.r HO404) (Sq.n HO404) A71.out).mono ?_); rintro e w' ⟨rfl, ⟨nd, rfl⟩⟩; (try first | exact ⟨rfl, _, Sq.dd⟩ | exact ⟨rfl, _, Sq.de⟩)) | (go_at_call 48; (with_reducible refine (spec_IsKit.calls k _ _ t401 t482 _ (Sq.r HO404) (Sq.n HO404) A72.out).mono ?_); rintro e w' ⟨rfl, ⟨nd, rfl⟩⟩; (try first | exact ⟨rfl, _, Sq.dd⟩ | exact ⟨rfl, _, Sq.de⟩)) | (go_at_call 47; (with_reducible refine (impl_IsKit.calls k _ _ t401 t483 _ (Sq.r HO404) (Sq.n HO404) A74.out).mono ?_); rintro e w' ⟨rfl, ⟨nd, rfl⟩⟩; (try first | exact ⟨rfl, _, Sq.dd⟩ | exact ⟨rfl, _, Sq.de⟩)))
    repeat (go_quiet (first | (go_at_call 26; (with_reducible refine (laws_vInts.calls k _ _ t405 _ _ t409 true _ (Sq.r HO408) (Sq.n HO408) (Sq.r HO412) (Sq.n HO412) A52.out).mono ?_); rintro e w' ⟨rfl, ⟨nd, rfl⟩⟩; (try first | exact ⟨rfl, _, Sq.dd⟩ | exact ⟨rfl, _, Sq.de⟩); obtain ⟨Ao78, co78, rfl⟩ := Kd.R_slice HO416.out; obtain ⟨Ao79, co79, rfl⟩ := Kd.R_slice HO420.out) | (go_at_call 26; (with_reducible refine (laws_vInts.calls k _ _ t413 _ _ t417 true _ (Sq.r HO416) (Sq.n HO416) (Sq.r HO420) (Sq.n HO420) A55.out).mono ?_); rintro e w' ⟨rfl, ⟨nd, rfl⟩⟩; (try first | exact ⟨rfl, _, Sq.dd⟩ | exact ⟨rfl, _, Sq.de⟩); obtain ⟨Ao80, co80, rfl⟩ := Kd.R_slice HO424.out; obtain ⟨Ao81, co81, rfl⟩ := Kd.R_slice HO428.out) | (go_at_call 26; (with_reducible refine (laws_vInts.calls k _ _ t421 _ _ t425 true _ (Sq.r HO424) (Sq.n HO424) (Sq.r HO428) (Sq.n HO428) A58.out).mono ?_); rintro e w' ⟨rfl, ⟨nd, rfl⟩⟩; (try first | exact ⟨rfl, _, Sq.dd⟩ | exact ⟨rfl, _, Sq.de⟩); obtain ⟨Ao82, co82, rfl⟩ := Kd.R_slice HO447.out; obtain ⟨Ao83, co83, rfl⟩ := Kd.R_slice HO451.out) | (go_at_call 26; (with_reducible refine (laws_vInts.calls k _ _ t444 _ _ t448 true _ (Sq.r HO447) (Sq.n HO447) (Sq.r HO451) (Sq.n HO451) A63.out).mono ?_); rintro e w' ⟨rfl, ⟨nd, rfl⟩⟩; (try first | exact ⟨rfl, _, Sq.dd⟩ | exact ⟨rfl, _, Sq.de⟩); obtain ⟨Ao84, co84, rfl⟩ := Kd.R_slice HO455.out; obtain ⟨Ao85, co85, rfl⟩ := Kd.R_slice HO459.out) | (go_at_call 26; (with_reducible refine (laws_vInts.calls k _ _ t452 _ _ t456 true _ (Sq.r HO455) (Sq.n HO455) (Sq.r HO459) (Sq.n HO459) A66.out).mono ?_); rintro e w' ⟨rfl, ⟨nd, rfl⟩⟩; (try first | exact ⟨rfl, _, Sq.dd⟩ | exact ⟨rfl, _, Sq.de⟩); obtain ⟨Ao86, co86, rfl⟩ := Kd.R_slice HO470.out; obtain ⟨Ao87, co87, rfl⟩ := Kd.R_slice HO474.out) | (go_at_call 46; (with_reducible refine (laws_vRow.calls k _ _ t467 _ _ t471 true _ (Sq.r HO470) (Sq.n HO470) (Sq.r HO474) (Sq.n HO474) A69.out).mono ?_); rintro e w' ⟨rfl, ⟨nd, rfl⟩⟩; (try first | exact ⟨rfl, _, Sq.dd⟩ | exact ⟨rfl, _, Sq.de⟩)) | (go_at_call 47; (with_reducible refine (impl_IsKit.calls k _ _ t401 t481 _ (Sq.r HO404) (Sq.n HO404) A71.out).mono ?_); rintro e w' ⟨rfl, ⟨nd, rfl⟩⟩; (try first | exact ⟨rfl, _, Sq.dd⟩ | exact ⟨rfl, _, Sq.de⟩)) | (go_at_call 48; (with_reducible refine (spec_IsKit.calls k _ _ t401 t482 _ (Sq.r HO404) (Sq.n HO404) A72.out).mono ?_); rintro e w' ⟨rfl, ⟨nd, rfl⟩⟩; (try first | exact ⟨rfl, _, Sq.dd⟩ | exact ⟨rfl, _, Sq.de⟩)) | (go_at_call 47; (with_reducible refine (impl_IsKit.calls k _ _ t401 t483 _ (Sq.r HO404) (Sq.n HO404) A74.out).mono ?_); rintro e w' ⟨rfl, ⟨nd, rfl⟩⟩; (try first | exact ⟨rfl, _, Sq.dd⟩ | exact ⟨rfl, _, Sq.de⟩))); try go_wp2_with (first | (go_at_call 26; (with_reducible refine (laws_vInts.calls k _ _ t405 _ _ t409 true _ (Sq.r HO408) (Sq.n HO408) (Sq.r HO412) (Sq.n HO412) A52.out).mono ?_); rintro e w' ⟨rfl, ⟨nd, rfl⟩⟩; (try first | exact ⟨rfl, _, Sq.dd⟩ | exact ⟨rfl, _, Sq.de⟩); obtain ⟨Ao78, co78, rfl⟩ := Kd.R_slice HO416.out; obtain ⟨Ao79, co79, rfl⟩ := Kd.R_slice HO420.out) | (go_at_call 26; (with_reducible refine (laws_vInts.calls k _ _ t413 _ _ t417 true _ (Sq.r HO416) (Sq.n HO416) (Sq.r HO420) (Sq.n HO420) A55.out).mono ?_); rintro e w' ⟨rfl, ⟨nd, rfl⟩⟩; (try first | exact ⟨rfl, _, Sq.dd⟩ | exact ⟨rfl, _, Sq.de⟩); obtain ⟨Ao80, co80, rfl⟩ := Kd.R_slice HO424.out; obtain ⟨Ao81, co81, rfl⟩ := Kd.R_slice HO428.out) | (go_at_call 26; (with_reducible refine (laws_vInts.calls k _ _ t421 _ _ t425 true _ (Sq.r HO424) (Sq.n HO424) (Sq.r HO428) (Sq.n HO428) A58.out).mono ?_); rintro e w' ⟨rfl, ⟨nd, rfl⟩⟩; (try first | exact ⟨rfl, _, Sq.dd⟩ | exact ⟨rfl, _, Sq.de⟩); obtain ⟨Ao82, co82, rfl⟩ := Kd.R_slice HO447.out; obtain ⟨Ao83, co83, rfl⟩ := Kd.R_slice HO451.out) | (go_at_call 26; (with_reducible refine (laws_vInts.calls k _ _ t444 _ _ t448 true _ (Sq.r HO447) (Sq.n HO447) (Sq.r HO451) (Sq.n HO451) A63.out).mono ?_); rintro e w' ⟨rfl, ⟨nd, rfl⟩⟩; (try first | exact ⟨rfl, _, Sq.dd⟩ | exact ⟨rfl, _, Sq.de⟩); obtain ⟨Ao84, co84, rfl⟩ := Kd.R_slice HO455.out; obtain ⟨Ao85, co85, rfl⟩ := Kd.R_slice HO459.out) | (go_at_call 26; (with_reducible refine (laws_vInts.calls k _ _ t452 _ _ t456 true _ (Sq.r HO455) (Sq.n HO455) (Sq.r HO459) (Sq.n HO459) A66.out).mono ?_); rintro e w' ⟨rfl, ⟨nd, rfl⟩⟩; (try first | exact ⟨rfl, _, Sq.dd⟩ | exact ⟨rfl, _, Sq.de⟩); obtain ⟨Ao86, co86, rfl⟩ := Kd.R_slice HO470.out; obtain ⟨Ao87, co87, rfl⟩ := Kd.R_slice HO474.out) | (go_at_call 46; (with_reducible refine (laws_vRow.calls k _ _ t467 _ _ t471 true _ (Sq.r HO470) (Sq.n HO470) (Sq.r HO474) (Sq.n HO474) A69.out).mono ?_); rintro e w' ⟨rfl, ⟨nd, rfl⟩⟩; (try first | exact ⟨rfl, _, Sq.dd⟩ | exact ⟨rfl, _, Sq.de⟩)) | (go_at_call 47; (with_reducible refine (impl_IsKit.calls k _ _ t401 t481 _ (Sq.r HO404) (Sq.n HO404) A71.out).mono ?_); rintro e w' ⟨rfl, ⟨nd, rfl⟩⟩; (try first | exact ⟨rfl, _, Sq.dd⟩ | exact ⟨rfl, _, Sq.de⟩)) | (go_at_call 48; (with_reducible refine (spec_IsKit.calls k _ _ t401 t482 _ (Sq.r HO404) (Sq.n HO404) A72.out).mono ?_); rintro e w' ⟨rfl, ⟨nd, rfl⟩⟩; (try first | exact ⟨rfl, _, Sq.dd⟩ | exact ⟨rfl, _, Sq.de⟩)) | (go_at_call 47; (with_reducible refine (impl_IsKit.calls k _ _ t401 t483 _ (Sq.r HO404) (Sq.n HO404) A74.out).mono ?_); rintro e w' ⟨rfl, ⟨nd, rfl⟩⟩; (try first | exact ⟨rfl, _, Sq.dd⟩ | exact ⟨rfl, _, Sq.de⟩))))
    go_meet
    case rel => exact ⟨_, ((t414 != t422)), (by first | rfl | (simp; done) | (simp [*]; done) | (simp [bne]; done)), H', ⟨by first | omega | exact Nat.le_refl _⟩, ⟨Kd.R_mono (Sq.R HO404) (fun _ hk => ⟨hk.1.1.1.1.1.1.1.1.1.1.1.1.2, ⟨hk.1.1.1.1.1.1.1.1.1.1.2, ⟨hk.1.1.1.1.1.1.1.1.2, ⟨hk.1.1.1.1.1.1.2, ⟨hk.1.1.1.1.1.2, ⟨hk.1.1.1.2, ⟨hk.1.2, hk.2⟩⟩⟩⟩⟩⟩⟩)⟩, ⟨Kd.R_mono (Sq.R HO408) (fun _ hk => ⟨hk.1.1.1.1.1.1.1.1.1.1.1.1.2, ⟨hk.1.1.1.1.1.1.1.1.1.1.2, ⟨hk.1.1.1.1.1.1.1.1.2, ⟨hk.1.1.1.1.1.1.2, ⟨hk.1.1.1.1.1.2, ⟨hk.1.1.1.2, ⟨hk.1.2, hk.2⟩⟩⟩⟩⟩⟩⟩)⟩, ⟨Kd.R_mono (Sq.R HO416) (fun _ hk => ⟨hk.1.1.1.1.1.1.1.1.1.1.1.1.2, ⟨hk.1.1.1.1.1.1.1.1.1.1.1.2, ⟨hk.1.1.1.1.1.1.1.1.2, ⟨hk.1.1.1.1.1.1.2, ⟨hk.1.1.1.1.1.2, ⟨hk.1.1.1.2, ⟨hk.1.2, hk.2⟩⟩⟩⟩⟩⟩⟩)⟩, ⟨Kd.R_mono (Sq.R HO424) (fun _ hk => ⟨hk.1.1.1.1.1.1.1.1.1.1.1.1.2, ⟨hk.1.1.1.1.1.1.1.1.1.1.1.2, ⟨hk.1.1.1.1.1.1.1.1.1.2, ⟨hk.1.1.1.1.1.1.2, ⟨hk.1.1.1.1.1.2, ⟨hk.1.1.1.2, ⟨hk.1.2, hk.2⟩⟩⟩⟩⟩⟩⟩)⟩, ⟨Kd.R_mono (Sq.R HO435) (fun _ hk => ⟨hk.1.1.1.1.1.1.1.1.1.1.1.1.2, ⟨hk.1.1.1.1.1.1.1.1.1.1.1.2, ⟨hk.1.1.1.1.1.1.1.1.1.2, ⟨hk.1.1.1.1.1.1.1.2, ⟨hk.1.1.1.1.1.2, ⟨hk.1.1.1.2, ⟨hk.1.2, hk.2⟩⟩⟩⟩⟩⟩⟩)⟩, ⟨Kd.R_mono (Sq.R HO447) (fun _ hk => ⟨hk.1.1.1.1.1.1.1.1.1.1.1.1.2, ⟨hk.1.1.1.1.1.1.1.1.1.1.1.2, ⟨hk.1.1.1.1.1.1.1.1.1.2, ⟨hk.1.1.1.1.1.1.1.2, ⟨hk.1.1.1.1.1.2, ⟨hk.1.1.1.2, ⟨hk.1.2, hk.2⟩⟩⟩⟩⟩⟩⟩)⟩, ⟨Kd.R_mono (Sq.R HO455) (fun _ hk => ⟨hk.1.1.1.1.1.1.1.1.1.1.1.1.2, ⟨hk.1.1.1.1.1.1.1.1.1.1.1.2, ⟨hk.1.1.1.1.1.1.1.1.1.2, ⟨hk.1.1.1.1.1.1.1.2, ⟨hk.1.1.1.1.1.2, ⟨hk.1.1.1.1.2, ⟨hk.1.2, hk.2⟩⟩⟩⟩⟩⟩⟩)⟩, ⟨Kd.R_mono (Sq.R HO464) (fun _ hk => ⟨hk.1.1.1.1.1.1.1.1.1.1.1.2, ⟨hk.1.1.1.1.1.1.1.1.1.1.2, ⟨hk.1.1.1.1.1.1.1.1.2, ⟨hk.1.1.1.1.1.1.2, ⟨hk.1.1.1.1.2, ⟨hk.1.1.1.2, ⟨hk.1.2, hk.1.1.1.1.1.1.1.1.1.1.1.1⟩⟩⟩⟩⟩⟩⟩)⟩, ⟨Kd.R_mono (Sq.R HO466) (fun _ hk => ⟨hk.1.1.1.1.1.1.1.1.1.1.1.2, ⟨hk.1.1.1.1.1.1.1.1.1.1.2, ⟨hk.1.1.1.1.1.1.1.1.2, ⟨hk.1.1.1.1.1.1.2, ⟨hk.1.1.1.1.2, ⟨hk.1.1.1.2, ⟨hk.1.2, hk.1.1.1.1.1.1.1.1.1.1.1.1⟩⟩⟩⟩⟩⟩⟩)⟩, ⟨Kd.R_mono (Sq.R HO470) (fun _ hk => trivial)⟩, ⟨Sq.B HB⟩⟩
  case rest =>
   clear HC24
   obtain ⟨kq, x246_23, rfl, HA, HJ23, HO_3, HO_5, HO_9, HO_13, HO_17, HO_24, HO_28, HO_32, HO_33, HO_35, HB⟩ := hcut
   cases kq with
   | zero => exact absurd HA.out (by simp [laws_FnKits.j0])
   | succ kj23 =>
    have H := HA.out
    clear HA
    simp only [laws_FnKits.j0] at H
    by_cases c88 : x246_23 = true
    ·subst c88
     rw [if_pos rfl] at H
     obtain rfl := Option.some.inj H
     cases hr
    replace c88 := Bool.eq_false_iff.mpr c88
    subst c88
    rw [if_neg (show ¬ (false = true) by decide)] at H
    have HC89 := Aside0.mk H
    clear H
    as_aux_lemma =>
     go_upto_region 23 with (fail)
     repeat (go_quiet (fail); go_upto_region 23 with (fail))
     go_cut [250] (fun v250 wc => ∃ (kq : Nat) (x250_88 : Bool), v250 = .bool x250_88 ∧ Aside0 (laws_FnKits.j1 kq t401 t402 t405 t406 t413 t414 t421 t432 t436 t443 t444 t445 t452 t453 t460 t461 t462 t467 t468 x250_88 = some r) ∧ Aside0 (kq ≤ kj23) ∧ Aside0 (Kd.R (Kd.int .i64) 3 wc w.heap.size (fun k_ => some k_ ≠ (v407 : Value).ownBlock ∧ some k_ ≠ (v415 : Value).ownBlock ∧ some k_ ≠ (v423 : Value).ownBlock ∧ some k_ ≠ ((.slice Ao36 t432.length co36) : Value).ownBlock ∧ some k_ ≠ (v446 : Value).ownBlock ∧ some k_ ≠ (v454 : Value).ownBlock ∧ some k_ ≠ ((.slice Ao47 t460.length co47) : Value).ownBlock ∧ some k_ ≠ ((.slice Ao48 t461.length co48) : Value).ownBlock) (.slice Ao26 t401.length co26) t401) ∧ Aside0 (Kd.R (Kd.int .i64) 3 wc w.heap.size (fun k_ => some k_ ≠ ((.slice Ao26 t401.length co26) : Value).ownBlock ∧ some k_ ≠ (v415 : Value).ownBlock ∧ some k_ ≠ (v423 : Value).ownBlock ∧ some k_ ≠ ((.slice Ao36 t432.length co36) : Value).ownBlock ∧ some k_ ≠ (v446 : Value).ownBlock ∧ some k_ ≠ (v454 : Value).ownBlock ∧ some k_ ≠ ((.slice Ao47 t460.length co47) : Value).ownBlock ∧ some k_ ≠ ((.slice Ao48 t461.length co48) : Value).ownBlock) v407 t405) ∧ Aside0 (Kd.R (Kd.int .i64) 3 wc w.heap.size (fun k_ => some k_ ≠ ((.slice Ao26 t401.length co26) : Value).ownBlock ∧ some k_ ≠ (v407 : Value).ownBlock ∧ some k_ ≠ (v423 : Value).ownBlock ∧ some k_ ≠ ((.slice Ao36 t432.length co36) : Value).ownBlock ∧ some k_ ≠ (v446 : Value).ownBlock ∧ some k_ ≠ (v454 : Value).ownBlock ∧ some k_ ≠ ((.slice Ao47 t460.length co47) : Value).ownBlock ∧ some k_ ≠ ((.slice Ao48 t461.length co48) : Value).ownBlock) v415 t413) ∧ Aside0 (Kd.R (Kd.int .i64) 3 wc w.heap.size (fun k_ => some k_ ≠ ((.slice Ao26 t401.length co26) : Value).ownBlock ∧ some k_ ≠ (v407 : Value).ownBlock ∧ some k_ ≠ (v415 : Value).ownBlock ∧ some k_ ≠ ((.slice Ao36 t432.length co36) : Value).ownBlock ∧ some k_ ≠ (v446 : Value).ownBlock ∧ some k_ ≠ (v454 : Value).ownBlock ∧ some k_ ≠ ((.slice Ao47 t460.length co47) : Value).ownBlock ∧ some k_ ≠ ((.slice Ao48 t461.length co48) : Value).ownBlock) v423 t421) ∧ Aside0 (Kd.R (Kd.int .i64) 3 wc w.heap.size (fun k_ => some k_ ≠ ((.slice Ao26 t401.length co26) : Value).ownBlock ∧ some k_ ≠ (v407 : Value).ownBlock ∧ some k_ ≠ (v415 : Value).ownBlock ∧ some k_ ≠ (v423 : Value).ownBlock ∧ some k_ ≠ (v446 : Value).ownBlock ∧ some k_ ≠ (v454 : Value).ownBlock ∧ some k_ ≠ ((.slice Ao47 t460.length co47) : Value).ownBlock ∧ some k_ ≠ ((.slice Ao48 t461.length co48) : Value).ownBlock) (.slice Ao36 t432.length co36) t432) ∧ Aside0 (Kd.R (Kd.int .i64) 3 wc w.heap.size (fun k_ => some k_ ≠ ((.slice Ao26 t401.length co26) : Value).ownBlock ∧ some k_ ≠ (v407 : Value).ownBlock ∧ some k_ ≠ (v415 : Value).ownBlock ∧ some k_ ≠ (v423 : Value).ownBlock ∧ some k_ ≠ ((.slice Ao36 t432.length co36) : Value).ownBlock ∧ some k_ ≠ (v454 : Value).ownBlock ∧ some k_ ≠ ((.slice Ao47 t460.length co47) : Value).ownBlock ∧ some k_ ≠ ((.slice Ao48 t461.length co48) : Value).ownBlock) v446 t444) ∧ Aside0 (Kd.R (Kd.int .i64) 3 wc w.heap.size (fun k_ => some k_ ≠ ((.slice Ao26 t401.length co26) : Value).ownBlock ∧ some k_ ≠ (v407 : Value).ownBlock ∧ some k_ ≠ (v415 : Value).ownBlock ∧ some k_ ≠ (v423 : Value).ownBlock ∧ some k_ ≠ ((.slice Ao36 t432.length co36) : Value).ownBlock ∧ some k_ ≠ (v446 : Value).ownBlock ∧ some k_ ≠ ((.slice Ao47 t460.length co47) : Value).ownBlock ∧ some k_ ≠ ((.slice Ao48 t461.length co48) : Value).ownBlock) v454 t452) ∧ Aside0 (Kd.R (Kd.int .i64) 3 wc w.heap.size (fun k_ => some k_ ≠ ((.slice Ao26 t401.length co26) : Value).ownBlock ∧ some k_ ≠ (v407 : Value).ownBlock ∧ some k_ ≠ (v415 : Value).ownBlock ∧ some k_ ≠ (v423 : Value).ownBlock ∧ some k_ ≠ ((.slice Ao36 t432.length co36) : Value).ownBlock ∧ some k_ ≠ (v446 : Value).ownBlock ∧ some k_ ≠ (v454 : Value).ownBlock ∧ some k_ ≠ ((.slice Ao48 t461.length co48) : Value).ownBlock) (.slice Ao47 t460.length co47) t460) ∧ Aside0 (Kd.R (Kd.int .i64) 3 wc w.heap.size (fun k_ => some k_ ≠ ((.slice Ao26 t401.length co26) : Value).ownBlock ∧ some k_ ≠ (v407 : Value).ownBlock ∧ some k_ ≠ (v415 : Value).ownBlock ∧ some k_ ≠ (v423 : Value).ownBlock ∧ some k_ ≠ ((.slice Ao36 t432.length co36) : Value).ownBlock ∧ some k_ ≠ (v446 : Value).ownBlock ∧ some k_ ≠ (v454 : Value).ownBlock ∧ some k_ ≠ ((.slice Ao47 t460.length co47) : Value).ownBlock) (.slice Ao48 t461.length co48) t461) ∧ Aside0 (Kd.R k96 96 wc w.heap.size (fun _ => True) v469 t467) ∧ Aside0 (Below w.heap.size w wc))
     case first =>
      have H := HC89.out
      clear HC89
      by_cases c90 : t437 = true
      ·subst c90
       rw [if_pos rfl] at H
       as_aux_lemma =>
        have H' := Aside0.mk H
        clear H
        go_wp2
        repeat (go_quiet (fail); try go_wp2)
        go_meet
        case rel => exact ⟨_, (t433), (by first | rfl | (simp; done) | (simp [*]; done) | (simp [bne]; done)), H', ⟨by have := HJ23.out; first | omega | exact Nat.le_refl _⟩, ⟨by (with_reducible repeat (first | apply Kd.R_alloc | apply Kd.R_drewN | apply Kd.R_drew)); exact HO_3.out⟩, ⟨by (with_reducible repeat (first | apply Kd.R_alloc | apply Kd.R_drewN | apply Kd.R_drew)); exact HO_5.out⟩, ⟨by (with_reducible repeat (first | apply Kd.R_alloc | apply Kd.R_drewN | apply Kd.R_drew)); exact HO_9.out⟩, ⟨by (with_reducible repeat (first | apply Kd.R_alloc | apply Kd.R_drewN | apply Kd.R_drew)); exact HO_13.out⟩, ⟨by (with_reducible repeat (first | apply Kd.R_alloc | apply Kd.R_drewN | apply Kd.R_drew)); exact HO_17.out⟩, ⟨by (with_reducible repeat (first | apply Kd.R_alloc | apply Kd.R_drewN | apply Kd.R_drew)); exact HO_24.out⟩, ⟨by (with_reducible repeat (first | apply Kd.R_alloc | apply Kd.R_drewN | apply Kd.R_drew)); exact HO_28.out⟩, ⟨by (with_reducible repeat (first | apply Kd.R_alloc | apply Kd.R_drewN | apply Kd.R_drew)); exact HO_32.out⟩, ⟨by (with_reducible repeat (first | apply Kd.R_alloc | apply Kd.R_drewN | apply Kd.R_drew)); exact HO_33.out⟩, ⟨by (with_reducible repeat (first | apply Kd.R_alloc | apply Kd.R_drewN | apply Kd.R_drew)); exact HO_35.out⟩, ⟨Sq.B HB⟩⟩
      replace c90 := Bool.eq_false_iff.mpr c90
      subst c90
      rw [if_neg (show ¬ (false = true) by decide)] at H
      as_aux_lemma =>
       have H' := Aside0.mk H
       clear H
       go_wp2
       repeat (go_quiet (fail); try go_wp2)
       go_meet
       case rel => exact ⟨_, (false), (by first | rfl | (simp; done) | (simp [*]; done) | (simp [bne]; done)), H', ⟨by have := HJ23.out; first | omega | exact Nat.le_refl _⟩, ⟨by (with_reducible repeat (first | apply Kd.R_alloc | apply Kd.R_drewN | apply Kd.R_drew)); exact HO_3.out⟩, ⟨by (with_reducible repeat (first | apply Kd.R_alloc | apply Kd.R_drewN | apply Kd.R_drew)); exact HO_5.out⟩, ⟨by (with_reducible repeat (first | apply Kd.R_alloc | apply Kd.R_drewN | apply Kd.R_drew)); exact HO_9.out⟩, ⟨by (with_reducible repeat (first | apply Kd.R_alloc | apply Kd.R_drewN | apply Kd.R_drew)); exact HO_13.out⟩, ⟨by (with_reducible repeat (first | apply Kd.R_alloc | apply Kd.R_drewN | apply Kd.R_drew)); exact HO_17.out⟩, ⟨by (with_reducible repeat (first | apply Kd.R_alloc | apply Kd.R_drewN | apply Kd.R_drew)); exact HO_24.out⟩, ⟨by (with_reducible repeat (first | apply Kd.R_alloc | apply Kd.R_drewN | apply Kd.R_drew)); exact HO_28.out⟩, ⟨by (with_reducible repeat (first | apply Kd.R_alloc | apply Kd.R_drewN | apply Kd.R_drew)); exact HO_32.out⟩, ⟨by (with_reducible repeat (first | apply Kd.R_alloc | apply Kd.R_drewN | apply Kd.R_drew)); exact HO_33.out⟩, ⟨by (with_reducible repeat (first | apply Kd.R_alloc | apply Kd.R_drewN | apply Kd.R_drew)); exact HO_35.out⟩, ⟨Sq.B HB⟩⟩
     case rest =>
      clear HC89
      obtain ⟨kq, x250_88, rfl, HA, HJ88, HO_3, HO_5, HO_9, HO_13, HO_17, HO_24, HO_28, HO_32, HO_33, HO_35, HB⟩ := hcut
      cases kq with
      | zero => exact absurd HA.out (by simp [laws_FnKits.j1])
      | succ kj88 =>
       have H := HA.out
       clear HA
       simp only [laws_FnKits.j1] at H
       have HC91 := Aside0.mk H
       clear H
       as_aux_lemma =>
        go_upto_if 250 with (fail)
        repeat (go_quiet (fail); go_upto_if 250 with (fail))
        go_cut [] (fun wc => ∃ (kq : Nat), Aside0 (laws_FnKits.j2 kq t401 t402 t405 t406 t413 t414 t421 t443 t444 t445 t452 t453 t460 t461 t462 t467 t468 = some r) ∧ Aside0 (kq ≤ kj88) ∧ Aside0 (Kd.R (Kd.int .i64) 3 wc w.heap.size (fun k_ => some k_ ≠ (v407 : Value).ownBlock ∧ some k_ ≠ (v415 : Value).ownBlock ∧ some k_ ≠ (v423 : Value).ownBlock ∧ some k_ ≠ (v446 : Value).ownBlock ∧ some k_ ≠ (v454 : Value).ownBlock ∧ some k_ ≠ ((.slice Ao47 t460.length co47) : Value).ownBlock ∧ some k_ ≠ ((.slice Ao48 t461.length co48) : Value).ownBlock) (.slice Ao26 t401.length co26) t401) ∧ Aside0 (Kd.R (Kd.int .i64) 3 wc w.heap.size (fun k_ => some k_ ≠ ((.slice Ao26 t401.length co26) : Value).ownBlock ∧ some k_ ≠ (v415 : Value).ownBlock ∧ some k_ ≠ (v423 : Value).ownBlock ∧ some k_ ≠ (v446 : Value).ownBlock ∧ some k_ ≠ (v454 : Value).ownBlock ∧ some k_ ≠ ((.slice Ao47 t460.length co47) : Value).ownBlock ∧ some k_ ≠ ((.slice Ao48 t461.length co48) : Value).ownBlock) v407 t405) ∧ Aside0 (Kd.R (Kd.int .i64) 3 wc w.heap.size (fun k_ => some k_ ≠ ((.slice Ao26 t401.length co26) : Value).ownBlock ∧ some k_ ≠ (v407 : Value).ownBlock ∧ some k_ ≠ (v423 : Value).ownBlock ∧ some k_ ≠ (v446 : Value).ownBlock ∧ some k_ ≠ (v454 : Value).ownBlock ∧ some k_ ≠ ((.slice Ao47 t460.length co47) : Value).ownBlock ∧ some k_ ≠ ((.slice Ao48 t461.length co48) : Value).ownBlock) v415 t413) ∧ Aside0 (Kd.R (Kd.int .i64) 3 wc w.heap.size (fun k_ => some k_ ≠ ((.slice Ao26 t401.length co26) : Value).ownBlock ∧ some k_ ≠ (v407 : Value).ownBlock ∧ some k_ ≠ (v415 : Value).ownBlock ∧ some k_ ≠ (v446 : Value).ownBlock ∧ some k_ ≠ (v454 : Value).ownBlock ∧ some k_ ≠ ((.slice Ao47 t460.length co47) : Value).ownBlock ∧ some k_ ≠ ((.slice Ao48 t461.length co48) : Value).ownBlock) v423 t421) ∧ Aside0 (Kd.R (Kd.int .i64) 3 wc w.heap.size (fun k_ => some k_ ≠ ((.slice Ao26 t401.length co26) : Value).ownBlock ∧ some k_ ≠ (v407 : Value).ownBlock ∧ some k_ ≠ (v415 : Value).ownBlock ∧ some k_ ≠ (v423 : Value).ownBlock ∧ some k_ ≠ (v454 : Value).ownBlock ∧ some k_ ≠ ((.slice Ao47 t460.length co47) : Value).ownBlock ∧ some k_ ≠ ((.slice Ao48 t461.length co48) : Value).ownBlock) v446 t444) ∧ Aside0 (Kd.R (Kd.int .i64) 3 wc w.heap.size (fun k_ => some k_ ≠ ((.slice Ao26 t401.length co26) : Value).ownBlock ∧ some k_ ≠ (v407 : Value).ownBlock ∧ some k_ ≠ (v415 : Value).ownBlock ∧ some k_ ≠ (v423 : Value).ownBlock ∧ some k_ ≠ (v446 : Value).ownBlock ∧ some k_ ≠ ((.slice Ao47 t460.length co47) : Value).ownBlock ∧ some k_ ≠ ((.slice Ao48 t461.length co48) : Value).ownBlock) v454 t452) ∧ Aside0 (Kd.R (Kd.int .i64) 3 wc w.heap.size (fun k_ => some k_ ≠ ((.slice Ao26 t401.length co26) : Value).ownBlock ∧ some k_ ≠ (v407 : Value).ownBlock ∧ some k_ ≠ (v415 : Value).ownBlock ∧ some k_ ≠ (v423 : Value).ownBlock ∧ some k_ ≠ (v446 : Value).ownBlock ∧ some k_ ≠ (v454 : Value).ownBlock ∧ some k_ ≠ ((.slice Ao48 t461.length co48) : Value).ownBlock) (.slice Ao47 t460.length co47) t460) ∧ Aside0 (Kd.R (Kd.int .i64) 3 wc w.heap.size (fun k_ => some k_ ≠ ((.slice Ao26 t401.length co26) : Value).ownBlock ∧ some k_ ≠ (v407 : Value).ownBlock ∧ some k_ ≠ (v415 : Value).ownBlock ∧ some k_ ≠ (v423 : Value).ownBlock ∧ some k_ ≠ (v446 : Value).ownBlock ∧ some k_ ≠ (v454 : Value).ownBlock ∧ some k_ ≠ ((.slice Ao47 t460.length co47) : Value).ownBlock) (.slice Ao48 t461.length co48) t461) ∧ Aside0 (Kd.R k96 96 wc w.heap.size (fun _ => True) v469 t467) ∧ Aside0 (Below w.heap.size w wc))
        case first =>
         have H := HC91.out
         clear HC91
         by_cases c92 : x250_88 = true
         rotate_left
         ·replace c92 := Bool.eq_false_iff.mpr c92
          subst c92
          rw [if_neg (show ¬ (false = true) by decide)] at H
          as_aux_lemma =>
           have H' := Aside0.mk H
           clear H
           go_wp2
           repeat (go_quiet (fail); try go_wp2)
           go_meet
           case rel => exact ⟨_, H', ⟨by have := HJ23.out; have := HJ88.out; first | omega | exact Nat.le_refl _⟩, ⟨Kd.R_mono (Sq.R HO_3) (fun _ hk => ⟨hk.1, ⟨hk.2.1, ⟨hk.2.2.1, ⟨hk.2.2.2.2.1, ⟨hk.2.2.2.2.2.1, ⟨hk.2.2.2.2.2.2.1, hk.2.2.2.2.2.2.2⟩⟩⟩⟩⟩⟩)⟩, ⟨Kd.R_mono (Sq.R HO_5) (fun _ hk => ⟨hk.1, ⟨hk.2.1, ⟨hk.2.2.1, ⟨hk.2.2.2.2.1, ⟨hk.2.2.2.2.2.1, ⟨hk.2.2.2.2.2.2.1, hk.2.2.2.2.2.2.2⟩⟩⟩⟩⟩⟩)⟩, ⟨Kd.R_mono (Sq.R HO_9) (fun _ hk => ⟨hk.1, ⟨hk.2.1, ⟨hk.2.2.1, ⟨hk.2.2.2.2.1, ⟨hk.2.2.2.2.2.1, ⟨hk.2.2.2.2.2.2.1, hk.2.2.2.2.2.2.2⟩⟩⟩⟩⟩⟩)⟩, ⟨Kd.R_mono (Sq.R HO_13) (fun _ hk => ⟨hk.1, ⟨hk.2.1, ⟨hk.2.2.1, ⟨hk.2.2.2.2.1, ⟨hk.2.2.2.2.2.1, ⟨hk.2.2.2.2.2.2.1, hk.2.2.2.2.2.2.2⟩⟩⟩⟩⟩⟩)⟩, ⟨Kd.R_mono (Sq.R HO_24) (fun _ hk => ⟨hk.1, ⟨hk.2.1, ⟨hk.2.2.1, ⟨hk.2.2.2.1, ⟨hk.2.2.2.2.2.1, ⟨hk.2.2.2.2.2.2.1, hk.2.2.2.2.2.2.2⟩⟩⟩⟩⟩⟩)⟩, ⟨Kd.R_mono (Sq.R HO_28) (fun _ hk => ⟨hk.1, ⟨hk.2.1, ⟨hk.2.2.1, ⟨hk.2.2.2.1, ⟨hk.2.2.2.2.2.1, ⟨hk.2.2.2.2.2.2.1, hk.2.2.2.2.2.2.2⟩⟩⟩⟩⟩⟩)⟩, ⟨Kd.R_mono (Sq.R HO_32) (fun _ hk => ⟨hk.1, ⟨hk.2.1, ⟨hk.2.2.1, ⟨hk.2.2.2.1, ⟨hk.2.2.2.2.2.1, ⟨hk.2.2.2.2.2.2.1, hk.2.2.2.2.2.2.2⟩⟩⟩⟩⟩⟩)⟩, ⟨Kd.R_mono (Sq.R HO_33) (fun _ hk => ⟨hk.1, ⟨hk.2.1, ⟨hk.2.2.1, ⟨hk.2.2.2.1, ⟨hk.2.2.2.2.2.1, ⟨hk.2.2.2.2.2.2.1, hk.2.2.2.2.2.2.2⟩⟩⟩⟩⟩⟩)⟩, ⟨by (with_reducible repeat (first | apply Kd.R_alloc | apply Kd.R_drewN | apply Kd.R_drew)); exact HO_35.out⟩, ⟨Sq.B HB⟩⟩
         subst c92
         rw [if_pos rfl] at H
         replace H := Option.bind_eq_some_iff.mp H
         obtain ⟨⟨t484, t485⟩, A930, H⟩ := H
         try dsimp only at H
         have A93 := Aside0.mk A930
         clear A930
         by_cases c94 : t485 = true
         rotate_left
         ·replace c94 := Bool.eq_false_iff.mpr c94
          subst c94
          rw [if_neg (show ¬ (false = true) by decide)] at H
          obtain rfl := Option.some.inj H
          cases hr
         subst c94
         rw [if_pos rfl] at H
         by_cases c95 : t484 > t436
         ·rw [if_pos c95] at H
          have c95b0 : decide (t436 < t484) = true := decide_eq_true c95
          clear c95
          (first | rw [c95b0] | (simp only [i64_w, i32_w]; rw [c95b0]) | skip)
          obtain rfl := Option.some.inj H
          cases hr
         rw [if_neg c95] at H
         have c95b0 : decide (t436 < t484) = false := decide_eq_false c95
         clear c95
         (first | rw [c95b0] | (simp only [i64_w, i32_w]; rw [c95b0]) | skip)
         as_aux_lemma =>
          have H' := Aside0.mk H
          clear H
          go_wp2_with (first | (go_at_call 36; (with_reducible refine (impl_KitRange.calls kj88 _ _ t432 false t484 true _ (Sq.r HO_17) (Sq.n HO_17) A93.out).mono ?_); rintro e w96 ⟨rfl, hb⟩; replace HO_3 := Sq.T HO_3 hb; replace HO_5 := Sq.T HO_5 hb; replace HO_9 := Sq.T HO_9 hb; replace HO_13 := Sq.T HO_13 hb; replace HO_17 := Sq.T HO_17 hb; replace HO_24 := Sq.T HO_24 hb; replace HO_28 := Sq.T HO_28 hb; replace HO_32 := Sq.T HO_32 hb; replace HO_33 := Sq.T HO_33 hb; replace HO_35 := Sq.T HO_35 hb; replace HB := Sq.S HB hb; clear hb))
          repeat (go_quiet (first | (go_at_call 36; (with_reducible refine (impl_KitRange.calls kj88 _ _ t432 false t484 true _ (Sq.r HO_17) (Sq.n HO_17) A93.out).mono ?_); rintro e w96 ⟨rfl, hb⟩; replace HO_3 := Sq.T HO_3 hb; replace HO_5 := Sq.T HO_5 hb; replace HO_9 := Sq.T HO_9 hb; replace HO_13 := Sq.T HO_13 hb; replace HO_17 := Sq.T HO_17 hb; replace HO_24 := Sq.T HO_24 hb; replace HO_28 := Sq.T HO_28 hb; replace HO_32 := Sq.T HO_32 hb; replace HO_33 := Sq.T HO_33 hb; replace HO_35 := Sq.T HO_35 hb; replace HB := Sq.S HB hb; clear hb)); try go_wp2_with (first | (go_at_call 36; (with_reducible refine (impl_KitRange.calls kj88 _ _ t432 false t484 true _ (Sq.r HO_17) (Sq.n HO_17) A93.out).mono ?_); rintro e w96 ⟨rfl, hb⟩; replace HO_3 := Sq.T HO_3 hb; replace HO_5 := Sq.T HO_5 hb; replace HO_9 := Sq.T HO_9 hb; replace HO_13 := Sq.T HO_13 hb; replace HO_17 := Sq.T HO_17 hb; replace HO_24 := Sq.T HO_24 hb; replace HO_28 := Sq.T HO_28 hb; replace HO_32 := Sq.T HO_32 hb; replace HO_33 := Sq.T HO_33 hb; replace HO_35 := Sq.T HO_35 hb; replace HB := Sq.S HB hb; clear hb)))
          go_meet
          case rel => exact ⟨_, H', ⟨by have := HJ23.out; have := HJ88.out; first | omega | exact Nat.le_refl _⟩, ⟨Kd.R_mono (Sq.R HO_3) (fun _ hk => ⟨hk.1, ⟨hk.2.1, ⟨hk.2.2.1, ⟨hk.2.2.2.2.1, ⟨hk.2.2.2.2.2.1, ⟨hk.2.2.2.2.2.2.1, hk.2.2.2.2.2.2.2⟩⟩⟩⟩⟩⟩)⟩, ⟨Kd.R_mono (Sq.R HO_5) (fun _ hk => ⟨hk.1, ⟨hk.2.1, ⟨hk.2.2.1, ⟨hk.2.2.2.2.1, ⟨hk.2.2.2.2.2.1, ⟨hk.2.2.2.2.2.2.1, hk.2.2.2.2.2.2.2⟩⟩⟩⟩⟩⟩)⟩, ⟨Kd.R_mono (Sq.R HO_9) (fun _ hk => ⟨hk.1, ⟨hk.2.1, ⟨hk.2.2.1, ⟨hk.2.2.2.2.1, ⟨hk.2.2.2.2.2.1, ⟨hk.2.2.2.2.2.2.1, hk.2.2.2.2.2.2.2⟩⟩⟩⟩⟩⟩)⟩, ⟨Kd.R_mono (Sq.R HO_13) (fun _ hk => ⟨hk.1, ⟨hk.2.1, ⟨hk.2.2.1, ⟨hk.2.2.2.2.1, ⟨hk.2.2.2.2.2.1, ⟨hk.2.2.2.2.2.2.1, hk.2.2.2.2.2.2.2⟩⟩⟩⟩⟩⟩)⟩, ⟨Kd.R_mono (Sq.R HO_24) (fun _ hk => ⟨hk.1, ⟨hk.2.1, ⟨hk.2.2.1, ⟨hk.2.2.2.1, ⟨hk.2.2.2.2.2.1, ⟨hk.2.2.2.2.2.2.1, hk.2.2.2.2.2.2.2⟩⟩⟩⟩⟩⟩)⟩, ⟨Kd.R_mono (Sq.R HO_28) (fun _ hk => ⟨hk.1, ⟨hk.2.1, ⟨hk.2.2.1, ⟨hk.2.2.2.1, ⟨hk.2.2.2.2.2.1, ⟨hk.2.2.2.2.2.2.1, hk.2.2.2.2.2.2.2⟩⟩⟩⟩⟩⟩)⟩, ⟨Kd.R_mono (Sq.R HO_32) (fun _ hk => ⟨hk.1, ⟨hk.2.1, ⟨hk.2.2.1, ⟨hk.2.2.2.1, ⟨hk.2.2.2.2.2.1, ⟨hk.2.2.2.2.2.2.1, hk.2.2.2.2.2.2.2⟩⟩⟩⟩⟩⟩)⟩, ⟨Kd.R_mono (Sq.R HO_33) (fun _ hk => ⟨hk.1, ⟨hk.2.1, ⟨hk.2.2.1, ⟨hk.2.2.2.1, ⟨hk.2.2.2.2.2.1, ⟨hk.2.2.2.2.2.2.1, hk.2.2.2.2.2.2.2⟩⟩⟩⟩⟩⟩)⟩, ⟨by (with_reducible repeat (first | apply Kd.R_alloc | apply Kd.R_drewN | apply Kd.R_drew)); exact HO_35.out⟩, ⟨Sq.B HB⟩⟩
        case rest =>
         clear HC91
         obtain ⟨kq, HA, HJ90, HO_3, HO_5, HO_9, HO_13, HO_24, HO_28, HO_32, HO_33, HO_35, HB⟩ := hcut
         cases kq with
         | zero => exact absurd HA.out (by simp [laws_FnKits.j2])
         | succ kj90 =>
          have H := HA.out
          clear HA
          simp only [laws_FnKits.j2] at H
          have HC97 := Aside0.mk H
          clear H
          as_aux_lemma =>
           go_upto_block 0 with (fail)
           repeat (go_quiet (fail); go_upto_block 0 with (fail))
           go_cut [41, 42] (fun v41 v42 wc => ∃ (kq : Nat) (x41_96 : Int) (x42_96 : Int), v41 = .int .i64 x41_96 ∧ v42 = .int .i64 x42_96 ∧ Aside0 (laws_FnKits.j4 kq t401 t402 t405 t406 t413 t414 t421 t444 t445 t452 t453 t460 t461 t462 t467 t468 x41_96 x42_96 = some r) ∧ Aside0 (kq ≤ kj90) ∧ Aside0 (Kd.R (Kd.int .i64) 3 wc w.heap.size (fun k_ => some k_ ≠ (v407 : Value).ownBlock ∧ some k_ ≠ (v415 : Value).ownBlock ∧ some k_ ≠ (v423 : Value).ownBlock ∧ some k_ ≠ (v446 : Value).ownBlock ∧ some k_ ≠ (v454 : Value).ownBlock ∧ some k_ ≠ ((.slice Ao47 t460.length co47) : Value).ownBlock ∧ some k_ ≠ ((.slice Ao48 t461.length co48) : Value).ownBlock) (.slice Ao26 t401.length co26) t401) ∧ Aside0 (Kd.R (Kd.int .i64) 3 wc w.heap.size (fun k_ => some k_ ≠ ((.slice Ao26 t401.length co26) : Value).ownBlock ∧ some k_ ≠ (v415 : Value).ownBlock ∧ some k_ ≠ (v423 : Value).ownBlock ∧ some k_ ≠ (v446 : Value).ownBlock ∧ some k_ ≠ (v454 : Value).ownBlock ∧ some k_ ≠ ((.slice Ao47 t460.length co47) : Value).ownBlock ∧ some k_ ≠ ((.slice Ao48 t461.length co48) : Value).ownBlock) v407 t405) ∧ Aside0 (Kd.R (Kd.int .i64) 3 wc w.heap.size (fun k_ => some k_ ≠ ((.slice Ao26 t401.length co26) : Value).ownBlock ∧ some k_ ≠ (v407 : Value).ownBlock ∧ some k_ ≠ (v423 : Value).ownBlock ∧ some k_ ≠ (v446 : Value).ownBlock ∧ some k_ ≠ (v454 : Value).ownBlock ∧ some k_ ≠ ((.slice Ao47 t460.length co47) : Value).ownBlock ∧ some k_ ≠ ((.slice Ao48 t461.length co48) : Value).ownBlock) v415 t413) ∧ Aside0 (Kd.R (Kd.int .i64) 3 wc w.heap.size (fun k_ => some k_ ≠ ((.slice Ao26 t401.length co26) : Value).ownBlock ∧ some k_ ≠ (v407 : Value).ownBlock ∧ some k_ ≠ (v415 : Value).ownBlock ∧ some k_ ≠ (v446 : Value).ownBlock ∧ some k_ ≠ (v454 : Value).ownBlock ∧ some k_ ≠ ((.slice Ao47 t460.length co47) : Value).ownBlock ∧ some k_ ≠ ((.slice Ao48 t461.length co48) : Value).ownBlock) v423 t421) ∧ Aside0 (Kd.R (Kd.int .i64) 3 wc w.heap.size (fun k_ => some k_ ≠ ((.slice Ao26 t401.length co26) : Value).ownBlock ∧ some k_ ≠ (v407 : Value).ownBlock ∧ some k_ ≠ (v415 : Value).ownBlock ∧ some k_ ≠ (v423 : Value).ownBlock ∧ some k_ ≠ (v454 : Value).ownBlock ∧ some k_ ≠ ((.slice Ao47 t460.length co47) : Value).ownBlock ∧ some k_ ≠ ((.slice Ao48 t461.length co48) : Value).ownBlock) v446 t444) ∧ Aside0 (Kd.R (Kd.int .i64) 3 wc w.heap.size (fun k_ => some k_ ≠ ((.slice Ao26 t401.length co26) : Value).ownBlock ∧ some k_ ≠ (v407 : Value).ownBlock ∧ some k_ ≠ (v415 : Value).ownBlock ∧ some k_ ≠ (v423 : Value).ownBlock ∧ some k_ ≠ (v446 : Value).ownBlock ∧ some k_ ≠ ((.slice Ao47 t460.length co47) : Value).ownBlock ∧ some k_ ≠ ((.slice Ao48 t461.length co48) : Value).ownBlock) v454 t452) ∧ Aside0 (Kd.R (Kd.int .i64) 3 wc w.heap.size (fun k_ => some k_ ≠ ((.slice Ao26 t401.length co26) : Value).ownBlock ∧ some k_ ≠ (v407 : Value).ownBlock ∧ some k_ ≠ (v415 : Value).ownBlock ∧ some k_ ≠ (v423 : Value).ownBlock ∧ some k_ ≠ (v446 : Value).ownBlock ∧ some k_ ≠ (v454 : Value).ownBlock ∧ some k_ ≠ ((.slice Ao48 t461.length co48) : Value).ownBlock) (.slice Ao47 t460.length co47) t460) ∧ Aside0 (Kd.R (Kd.int .i64) 3 wc w.heap.size (fun k_ => some k_ ≠ ((.slice Ao26 t401.length co26) : Value).ownBlock ∧ some k_ ≠ (v407 : Value).ownBlock ∧ some k_ ≠ (v415 : Value).ownBlock ∧ some k_ ≠ (v423 : Value).ownBlock ∧ some k_ ≠ (v446 : Value).ownBlock ∧ some k_ ≠ (v454 : Value).ownBlock ∧ some k_ ≠ ((.slice Ao47 t460.length co47) : Value).ownBlock) (.slice Ao48 t461.length co48) t461) ∧ Aside0 (Kd.R k96 96 wc w.heap.size (fun _ => True) v469 t467) ∧ Aside0 (Below w.heap.size w wc))
           case first =>
            have H := HC97.out
            clear HC97
            have H' := Aside0.mk H
            clear H
            as_aux_lemma =>
             go_wp2
             repeat (go_quiet (fail); try go_wp2)
             go_loopg [41, 42, 43] kj90 (fun kq v41 v42 v43 w' => ∃ (x41_4 : Int) (x42_4 : Int) (x43_4 : Int), v41 = .int .i64 x41_4 ∧ v42 = .int .i64 x42_4 ∧ v43 = .int .i64 x43_4 ∧ Aside0 (laws_FnKits.l0 kq t401 t402 t405 t406 t413 t414 t421 t443 t444 t445 t452 t453 t460 t461 t462 t467 t468 x41_4 x42_4 x43_4 = some r) ∧ Aside0 (kq ≤ kj90) ∧ Aside0 (Kd.R (Kd.int .i64) 3 w' w.heap.size (fun k_ => some k_ ≠ (v407 : Value).ownBlock ∧ some k_ ≠ (v415 : Value).ownBlock ∧ some k_ ≠ (v423 : Value).ownBlock ∧ some k_ ≠ (v446 : Value).ownBlock ∧ some k_ ≠ (v454 : Value).ownBlock ∧ some k_ ≠ ((.slice Ao47 t460.length co47) : Value).ownBlock ∧ some k_ ≠ ((.slice Ao48 t461.length co48) : Value).ownBlock) (.slice Ao26 t401.length co26) t401) ∧ Aside0 (Kd.R (Kd.int .i64) 3 w' w.heap.size (fun k_ => some k_ ≠ ((.slice Ao26 t401.length co26) : Value).ownBlock ∧ some k_ ≠ (v415 : Value).ownBlock ∧ some k_ ≠ (v423 : Value).ownBlock ∧ some k_ ≠ (v446 : Value).ownBlock ∧ some k_ ≠ (v454 : Value).ownBlock ∧ some k_ ≠ ((.slice Ao47 t460.length co47) : Value).ownBlock ∧ some k_ ≠ ((.slice Ao48 t461.length co48) : Value).ownBlock) v407 t405) ∧ Aside0 (Kd.R (Kd.int .i64) 3 w' w.heap.size (fun k_ => some k_ ≠ ((.slice Ao26 t401.length co26) : Value).ownBlock ∧ some k_ ≠ (v407 : Value).ownBlock ∧ some k_ ≠ (v423 : Value).ownBlock ∧ some k_ ≠ (v446 : Value).ownBlock ∧ some k_ ≠ (v454 : Value).ownBlock ∧ some k_ ≠ ((.slice Ao47 t460.length co47) : Value).ownBlock ∧ some k_ ≠ ((.slice Ao48 t461.length co48) : Value).ownBlock) v415 t413) ∧ Aside0 (Kd.R (Kd.int .i64) 3 w' w.heap.size (fun k_ => some k_ ≠ ((.slice Ao26 t401.length co26) : Value).ownBlock ∧ some k_ ≠ (v407 : Value).ownBlock ∧ some k_ ≠ (v415 : Value).ownBlock ∧ some k_ ≠ (v446 : Value).ownBlock ∧ some k_ ≠ (v454 : Value).ownBlock ∧ some k_ ≠ ((.slice Ao47 t460.length co47) : Value).ownBlock ∧ some k_ ≠ ((.slice Ao48 t461.length co48) : Value).ownBlock) v423 t421) ∧ Aside0 (Kd.R (Kd.int .i64) 3 w' w.heap.size (fun k_ => some k_ ≠ ((.slice Ao26 t401.length co26) : Value).ownBlock ∧ some k_ ≠ (v407 : Value).ownBlock ∧ some k_ ≠ (v415 : Value).ownBlock ∧ some k_ ≠ (v423 : Value).ownBlock ∧ some k_ ≠ (v454 : Value).ownBlock ∧ some k_ ≠ ((.slice Ao47 t460.length co47) : Value).ownBlock ∧ some k_ ≠ ((.slice Ao48 t461.length co48) : Value).ownBlock) v446 t444) ∧ Aside0 (Kd.R (Kd.int .i64) 3 w' w.heap.size (fun k_ => some k_ ≠ ((.slice Ao26 t401.length co26) : Value).ownBlock ∧ some k_ ≠ (v407 : Value).ownBlock ∧ some k_ ≠ (v415 : Value).ownBlock ∧ some k_ ≠ (v423 : Value).ownBlock ∧ some k_ ≠ (v446 : Value).ownBlock ∧ some k_ ≠ ((.slice Ao47 t460.length co47) : Value).ownBlock ∧ some k_ ≠ ((.slice Ao48 t461.length co48) : Value).ownBlock) v454 t452) ∧ Aside0 (Kd.R (Kd.int .i64) 3 w' w.heap.size (fun k_ => some k_ ≠ ((.slice Ao26 t401.length co26) : Value).ownBlock ∧ some k_ ≠ (v407 : Value).ownBlock ∧ some k_ ≠ (v415 : Value).ownBlock ∧ some k_ ≠ (v423 : Value).ownBlock ∧ some k_ ≠ (v446 : Value).ownBlock ∧ some k_ ≠ (v454 : Value).ownBlock ∧ some k_ ≠ ((.slice Ao48 t461.length co48) : Value).ownBlock) (.slice Ao47 t460.length co47) t460) ∧ Aside0 (Kd.R (Kd.int .i64) 3 w' w.heap.size (fun k_ => some k_ ≠ ((.slice Ao26 t401.length co26) : Value).ownBlock ∧ some k_ ≠ (v407 : Value).ownBlock ∧ some k_ ≠ (v415 : Value).ownBlock ∧ some k_ ≠ (v423 : Value).ownBlock ∧ some k_ ≠ (v446 : Value).ownBlock ∧ some k_ ≠ (v454 : Value).ownBlock ∧ some k_ ≠ ((.slice Ao47 t460.length co47) : Value).ownBlock) (.slice Ao48 t461.length co48) t461) ∧ Aside0 (Kd.R k96 96 w' w.heap.size (fun _ => True) v469 t467) ∧ Aside0 (Below w.heap.size w w'))
             case atStart => exact ⟨(1), (1), (0), (by first | rfl | (simp; done) | (simp [*]; done) | (simp [bne]; done)), (by first | rfl | (simp; done) | (simp [*]; done) | (simp [bne]; done)), (by first | rfl | (simp; done) | (simp [*]; done) | (simp [bne]; done)), H', ⟨Nat.le_refl _⟩, ⟨by (with_reducible repeat (first | apply Kd.R_alloc | apply Kd.R_drewN | apply Kd.R_drew)); exact HO_3.out⟩, ⟨by (with_reducible repeat (first | apply Kd.R_alloc | apply Kd.R_drewN | apply Kd.R_drew)); exact HO_5.out⟩, ⟨by (with_reducible repeat (first | apply Kd.R_alloc | apply Kd.R_drewN | apply Kd.R_drew)); exact HO_9.out⟩, ⟨by (with_reducible repeat (first | apply Kd.R_alloc | apply Kd.R_drewN | apply Kd.R_drew)); exact HO_13.out⟩, ⟨by (with_reducible repeat (first | apply Kd.R_alloc | apply Kd.R_drewN | apply Kd.R_drew)); exact HO_24.out⟩, ⟨by (with_reducible repeat (first | apply Kd.R_alloc | apply Kd.R_drewN | apply Kd.R_drew)); exact HO_28.out⟩, ⟨by (with_reducible repeat (first | apply Kd.R_alloc | apply Kd.R_drewN | apply Kd.R_drew)); exact HO_32.out⟩, ⟨by (with_reducible repeat (first | apply Kd.R_alloc | apply Kd.R_drewN | apply Kd.R_drew)); exact HO_33.out⟩, ⟨by (with_reducible repeat (first | apply Kd.R_alloc | apply Kd.R_drewN | apply Kd.R_drew)); exact HO_35.out⟩, ⟨Sq.B HB⟩⟩
             case round =>
              clear H'
              obtain ⟨x41_4, x42_4, x43_4, rfl, rfl, rfl, HA, HK4, HO_3, HO_5, HO_9, HO_13, HO_24, HO_28, HO_32, HO_33, HO_35, HB⟩ := hrel
              cases gk with
              | zero => exact absurd HA.out (by simp [laws_FnKits.l0])
              | succ k4 =>
               have H := HA.out
               clear HA
               simp only [laws_FnKits.l0] at H
               by_cases c98 : x43_4 < t443
               rotate_left
               ·rw [if_neg c98] at H
                have c98b0 : decide (x43_4 < t443) = false := decide_eq_false c98
                clear c98
                (first | rw [c98b0] | (simp only [i64_w, i32_w]; rw [c98b0]) | skip)
                as_aux_lemma =>
                 have H' := Aside0.mk H
                 clear H
                 go_wp2
                 repeat (go_quiet (fail); try go_wp2)
                 go_meet
                 case rel => exact ⟨_, (x41_4), (x42_4), (by first | rfl | (simp; done) | (simp [*]; done) | (simp [bne]; done)), (by first | rfl | (simp; done) | (simp [*]; done) | (simp [bne]; done)), H', ⟨by have := HJ23.out; have := HJ88.out; have := HJ90.out; have := HK4.out; first | omega | exact Nat.le_refl _⟩, ⟨by (with_reducible repeat (first | apply Kd.R_alloc | apply Kd.R_drewN | apply Kd.R_drew)); exact HO_3.out⟩, ⟨by (with_reducible repeat (first | apply Kd.R_alloc | apply Kd.R_drewN | apply Kd.R_drew)); exact HO_5.out⟩, ⟨by (with_reducible repeat (first | apply Kd.R_alloc | apply Kd.R_drewN | apply Kd.R_drew)); exact HO_9.out⟩, ⟨by (with_reducible repeat (first | apply Kd.R_alloc | apply Kd.R_drewN | apply Kd.R_drew)); exact HO_13.out⟩, ⟨by (with_reducible repeat (first | apply Kd.R_alloc | apply Kd.R_drewN | apply Kd.R_drew)); exact HO_24.out⟩, ⟨by (with_reducible repeat (first | apply Kd.R_alloc | apply Kd.R_drewN | apply Kd.R_drew)); exact HO_28.out⟩, ⟨by (with_reducible repeat (first | apply Kd.R_alloc | apply Kd.R_drewN | apply Kd.R_drew)); exact HO_32.out⟩, ⟨by (with_reducible repeat (first | apply Kd.R_alloc | apply Kd.R_drewN | apply Kd.R_drew)); exact HO_33.out⟩, ⟨by (with_reducible repeat (first | apply Kd.R_alloc | apply Kd.R_drewN | apply Kd.R_drew)); exact HO_35.out⟩, ⟨Sq.B HB⟩⟩
               rw [if_pos c98] at H
               have c98b0 : decide (x43_4 < t443) = true := decide_eq_true c98
               clear c98
               (first | rw [c98b0] | (simp only [i64_w, i32_w]; rw [c98b0]) | skip)
               by_cases c99 : x43_4 < 7
               rotate_left
               ·rw [if_neg c99] at H
                have c99b0 : decide (x43_4 < 7) = false := decide_eq_false c99
                clear c99
                as_aux_lemma =>
                 have H' := Aside0.mk H
                 clear H
                 go_wp2
                 repeat (go_quiet (fail); try go_wp2)
                 go_meet
                 case rel => exact ⟨_, (x41_4), (x42_4), (by first | rfl | (simp; done) | (simp [*]; done) | (simp [bne]; done)), (by first | rfl | (simp; done) | (simp [*]; done) | (simp [bne]; done)), H', ⟨by have := HJ23.out; have := HJ88.out; have := HJ90.out; have := HK4.out; first | omega | exact Nat.le_refl _⟩, ⟨by (with_reducible repeat (first | apply Kd.R_alloc | apply Kd.R_drewN | apply Kd.R_drew)); exact HO_3.out⟩, ⟨by (with_reducible repeat (first | apply Kd.R_alloc | apply Kd.R_drewN | apply Kd.R_drew)); exact HO_5.out⟩, ⟨by (with_reducible repeat (first | apply Kd.R_alloc | apply Kd.R_drewN | apply Kd.R_drew)); exact HO_9.out⟩, ⟨by (with_reducible repeat (first | apply Kd.R_alloc | apply Kd.R_drewN | apply Kd.R_drew)); exact HO_13.out⟩, ⟨by (with_reducible repeat (first | apply Kd.R_alloc | apply Kd.R_drewN | apply Kd.R_drew)); exact HO_24.out⟩, ⟨by (with_reducible repeat (first | apply Kd.R_alloc | apply Kd.R_drewN | apply Kd.R_drew)); exact HO_28.out⟩, ⟨by (with_reducible repeat (first | apply Kd.R_alloc | apply Kd.R_drewN | apply Kd.R_drew)); exact HO_32.out⟩, ⟨by (with_reducible repeat (first | apply Kd.R_alloc | apply Kd.R_drewN | apply Kd.R_drew)); exact HO_33.out⟩, ⟨by (with_reducible repeat (first | apply Kd.R_alloc | apply Kd.R_drewN | apply Kd.R_drew)); exact HO_35.out⟩, ⟨Sq.B HB⟩⟩
               rw [if_pos c99] at H
               have c99b0 : decide (x43_4 < 7) = true := decide_eq_true c99
               clear c99
               as_aux_lemma =>
                have H' := Aside0.mk H
                clear H
                go_wp2
                repeat (go_quiet (fail); try go_wp2)
                go_roundg k4
                case measure => have := HJ23.out; have := HJ88.out; have := HJ90.out; have := HK4.out; omega
                case rel => exact ⟨(wrap64 (3 * x41_4)), (wrap64 (2 * x42_4)), (wrap64 (x43_4 + 1)), (by first | rfl | (simp; done) | (simp [*]; done) | (simp [bne]; done)), (by first | rfl | (simp; done) | (simp [*]; done) | (simp [bne]; done)), (by first | rfl | (simp; done) | (simp [*]; done) | (simp [bne]; done)), H', ⟨by have := HJ23.out; have := HJ88.out; have := HJ90.out; have := HK4.out; omega⟩, ⟨by (with_reducible repeat (first | apply Kd.R_alloc | apply Kd.R_drewN | apply Kd.R_drew)); exact HO_3.out⟩, ⟨by (with_reducible repeat (first | apply Kd.R_alloc | apply Kd.R_drewN | apply Kd.R_drew)); exact HO_5.out⟩, ⟨by (with_reducible repeat (first | apply Kd.R_alloc | apply Kd.R_drewN | apply Kd.R_drew)); exact HO_9.out⟩, ⟨by (with_reducible repeat (first | apply Kd.R_alloc | apply Kd.R_drewN | apply Kd.R_drew)); exact HO_13.out⟩, ⟨by (with_reducible repeat (first | apply Kd.R_alloc | apply Kd.R_drewN | apply Kd.R_drew)); exact HO_24.out⟩, ⟨by (with_reducible repeat (first | apply Kd.R_alloc | apply Kd.R_drewN | apply Kd.R_drew)); exact HO_28.out⟩, ⟨by (with_reducible repeat (first | apply Kd.R_alloc | apply Kd.R_drewN | apply Kd.R_drew)); exact HO_32.out⟩, ⟨by (with_reducible repeat (first | apply Kd.R_alloc | apply Kd.R_drewN | apply Kd.R_drew)); exact HO_33.out⟩, ⟨by (with_reducible repeat (first | apply Kd.R_alloc | apply Kd.R_drewN | apply Kd.R_drew)); exact HO_35.out⟩, ⟨Sq.B HB⟩⟩
           case rest =>
            clear HC97
            obtain ⟨kq, x41_96, x42_96, rfl, rfl, HA, HJ96, HO_3, HO_5, HO_9, HO_13, HO_24, HO_28, HO_32, HO_33, HO_35, HB⟩ := hcut
            cases kq with
            | zero => exact absurd HA.out (by simp [laws_FnKits.j4])
            | succ kj96 =>
             have H := HA.out
             clear HA
             simp only [laws_FnKits.j4] at H
             have HC100 := Aside0.mk H
             clear H
             as_aux_lemma =>
              go_upto_if 276 with (fail)
              repeat (go_quiet (fail); go_upto_if 276 with (fail))
              go_cut [] (fun wc => ∃ (kq : Nat), Aside0 (laws_FnKits.j5 kq t401 t402 t405 t406 t413 t414 t421 t452 t453 t460 t461 t462 t467 t468 x42_96 = some r) ∧ Aside0 (kq ≤ kj96) ∧ Aside0 (Kd.R (Kd.int .i64) 3 wc w.heap.size (fun k_ => some k_ ≠ (v407 : Value).ownBlock ∧ some k_ ≠ (v415 : Value).ownBlock ∧ some k_ ≠ (v423 : Value).ownBlock ∧ some k_ ≠ (v454 : Value).ownBlock ∧ some k_ ≠ ((.slice Ao47 t460.length co47) : Value).ownBlock ∧ some k_ ≠ ((.slice Ao48 t461.length co48) : Value).ownBlock) (.slice Ao26 t401.length co26) t401) ∧ Aside0 (Kd.R (Kd.int .i64) 3 wc w.heap.size (fun k_ => some k_ ≠ ((.slice Ao26 t401.length co26) : Value).ownBlock ∧ some k_ ≠ (v415 : Value).ownBlock ∧ some k_ ≠ (v423 : Value).ownBlock ∧ some k_ ≠ (v454 : Value).ownBlock ∧ some k_ ≠ ((.slice Ao47 t460.length co47) : Value).ownBlock ∧ some k_ ≠ ((.slice Ao48 t461.length co48) : Value).ownBlock) v407 t405) ∧ Aside0 (Kd.R (Kd.int .i64) 3 wc w.heap.size (fun k_ => some k_ ≠ ((.slice Ao26 t401.length co26) : Value).ownBlock ∧ some k_ ≠ (v407 : Value).ownBlock ∧ some k_ ≠ (v423 : Value).ownBlock ∧ some k_ ≠ (v454 : Value).ownBlock ∧ some k_ ≠ ((.slice Ao47 t460.length co47) : Value).ownBlock ∧ some k_ ≠ ((.slice Ao48 t461.length co48) : Value).ownBlock) v415 t413) ∧ Aside0 (Kd.R (Kd.int .i64) 3 wc w.heap.size (fun k_ => some k_ ≠ ((.slice Ao26 t401.length co26) : Value).ownBlock ∧ some k_ ≠ (v407 : Value).ownBlock ∧ some k_ ≠ (v415 : Value).ownBlock ∧ some k_ ≠ (v454 : Value).ownBlock ∧ some k_ ≠ ((.slice Ao47 t460.length co47) : Value).ownBlock ∧ some k_ ≠ ((.slice Ao48 t461.length co48) : Value).ownBlock) v423 t421) ∧ Aside0 (Kd.R (Kd.int .i64) 3 wc w.heap.size (fun k_ => some k_ ≠ ((.slice Ao26 t401.length co26) : Value).ownBlock ∧ some k_ ≠ (v407 : Value).ownBlock ∧ some k_ ≠ (v415 : Value).ownBlock ∧ some k_ ≠ (v423 : Value).ownBlock ∧ some k_ ≠ ((.slice Ao47 t460.length co47) : Value).ownBlock ∧ some k_ ≠ ((.slice Ao48 t461.length co48) : Value).ownBlock) v454 t452) ∧ Aside0 (Kd.R (Kd.int .i64) 3 wc w.heap.size (fun k_ => some k_ ≠ ((.slice Ao26 t401.length co26) : Value).ownBlock ∧ some k_ ≠ (v407 : Value).ownBlock ∧ some k_ ≠ (v415 : Value).ownBlock ∧ some k_ ≠ (v423 : Value).ownBlock ∧ some k_ ≠ (v454 : Value).ownBlock ∧ some k_ ≠ ((.slice Ao48 t461.length co48) : Value).ownBlock) (.slice Ao47 t460.length co47) t460) ∧ Aside0 (Kd.R (Kd.int .i64) 3 wc w.heap.size (fun k_ => some k_ ≠ ((.slice Ao26 t401.length co26) : Value).ownBlock ∧ some k_ ≠ (v407 : Value).ownBlock ∧ some k_ ≠ (v415 : Value).ownBlock ∧ some k_ ≠ (v423 : Value).ownBlock ∧ some k_ ≠ (v454 : Value).ownBlock ∧ some k_ ≠ ((.slice Ao47 t460.length co47) : Value).ownBlock) (.slice Ao48 t461.length co48) t461) ∧ Aside0 (Kd.R k96 96 wc w.heap.size (fun _ => True) v469 t467) ∧ Aside0 (Below w.heap.size w wc))
              case first =>
               have H := HC100.out
               clear HC100
               by_cases c101 : t445 = true
               rotate_left
               ·replace c101 := Bool.eq_false_iff.mpr c101
                subst c101
                rw [if_neg (show ¬ (false = true) by decide)] at H
                as_aux_lemma =>
                 have H' := Aside0.mk H
                 clear H
                 go_wp2
                 repeat (go_quiet (fail); try go_wp2)
                 go_meet
                 case rel => exact ⟨_, H', ⟨by have := HJ23.out; have := HJ88.out; have := HJ90.out; have := HJ96.out; first | omega | exact Nat.le_refl _⟩, ⟨Kd.R_mono (Sq.R HO_3) (fun _ hk => ⟨hk.1, ⟨hk.2.1, ⟨hk.2.2.1, ⟨hk.2.2.2.2.1, ⟨hk.2.2.2.2.2.1, hk.2.2.2.2.2.2⟩⟩⟩⟩⟩)⟩, ⟨Kd.R_mono (Sq.R HO_5) (fun _ hk => ⟨hk.1, ⟨hk.2.1, ⟨hk.2.2.1, ⟨hk.2.2.2.2.1, ⟨hk.2.2.2.2.2.1, hk.2.2.2.2.2.2⟩⟩⟩⟩⟩)⟩, ⟨Kd.R_mono (Sq.R HO_9) (fun _ hk => ⟨hk.1, ⟨hk.2.1, ⟨hk.2.2.1, ⟨hk.2.2.2.2.1, ⟨hk.2.2.2.2.2.1, hk.2.2.2.2.2.2⟩⟩⟩⟩⟩)⟩, ⟨Kd.R_mono (Sq.R HO_13) (fun _ hk => ⟨hk.1, ⟨hk.2.1, ⟨hk.2.2.1, ⟨hk.2.2.2.2.1, ⟨hk.2.2.2.2.2.1, hk.2.2.2.2.2.2⟩⟩⟩⟩⟩)⟩, ⟨Kd.R_mono (Sq.R HO_28) (fun _ hk => ⟨hk.1, ⟨hk.2.1, ⟨hk.2.2.1, ⟨hk.2.2.2.1, ⟨hk.2.2.2.2.2.1, hk.2.2.2.2.2.2⟩⟩⟩⟩⟩)⟩, ⟨Kd.R_mono (Sq.R HO_32) (fun _ hk => ⟨hk.1, ⟨hk.2.1, ⟨hk.2.2.1, ⟨hk.2.2.2.1, ⟨hk.2.2.2.2.2.1, hk.2.2.2.2.2.2⟩⟩⟩⟩⟩)⟩, ⟨Kd.R_mono (Sq.R HO_33) (fun _ hk => ⟨hk.1, ⟨hk.2.1, ⟨hk.2.2.1, ⟨hk.2.2.2.1, ⟨hk.2.2.2.2.2.1, hk.2.2.2.2.2.2⟩⟩⟩⟩⟩)⟩, ⟨by (with_reducible repeat (first | apply Kd.R_alloc | apply Kd.R_drewN | apply Kd.R_drew)); exact HO_35.out⟩, ⟨Sq.B HB⟩⟩
               subst c101
               rw [if_pos rfl] at H
               replace H := Option.bind_eq_some_iff.mp H
               obtain ⟨⟨t486, t487⟩, A1020, H⟩ := H
               try dsimp only at H
               have A102 := Aside0.mk A1020
               clear A1020
               by_cases c103 : t487 = true
               rotate_left
               ·replace c103 := Bool.eq_false_iff.mpr c103
                subst c103
                rw [if_neg (show ¬ (false = true) by decide)] at H
                obtain rfl := Option.some.inj H
                cases hr
               subst c103
               rw [if_pos rfl] at H
               by_cases c104 : t486 = (wrap64 (Int.tdiv (wrap64 (x41_96 - 1)) 2))
               rotate_left
               ·rw [if_neg c104] at H
                have c104b0 : (t486 == (wrap64 (Int.tdiv (wrap64 (x41_96 - 1)) 2))) = false := beq_eq_false_iff_ne.mpr c104
                have c104b1 : (t486 != (wrap64 (Int.tdiv (wrap64 (x41_96 - 1)) 2))) = true := bne_iff_ne.mpr c104
                (first | rw [c104b0] | (simp only [i64_w, i32_w]; rw [c104b0]) | skip)
                obtain rfl := Option.some.inj H
                cases hr
               rw [if_pos c104] at H
               have c104b0 : (t486 == (wrap64 (Int.tdiv (wrap64 (x41_96 - 1)) 2))) = true := beq_iff_eq.mpr c104
               have c104b1 : (t486 != (wrap64 (Int.tdiv (wrap64 (x41_96 - 1)) 2))) = false := bne_eq_false_iff_eq.mpr c104
               clear c104
               (first | rw [c104b0] | (simp only [i64_w, i32_w]; rw [c104b0]) | skip)
               as_aux_lemma =>
                have H' := Aside0.mk H
                clear H
                obtain ⟨Ao105, co105, rfl⟩ := Kd.R_slice HO_24.out
                go_wp2_with (first | (go_at_call 36; (with_reducible refine (impl_KitRange.calls kj96 _ _ t444 true t486 true _ (Sq.r HO_24) (Sq.n HO_24) A102.out).mono ?_); rintro e w106 ⟨rfl, hb⟩; replace HO_3 := Sq.T HO_3 hb; replace HO_5 := Sq.T HO_5 hb; replace HO_9 := Sq.T HO_9 hb; replace HO_13 := Sq.T HO_13 hb; replace HO_24 := Sq.T HO_24 hb; replace HO_28 := Sq.T HO_28 hb; replace HO_32 := Sq.T HO_32 hb; replace HO_33 := Sq.T HO_33 hb; replace HO_35 := Sq.T HO_35 hb; replace HB := Sq.S HB hb; clear hb))
                repeat (go_quiet (first | (go_at_call 36; (with_reducible refine (impl_KitRange.calls kj96 _ _ t444 true t486 true _ (Sq.r HO_24) (Sq.n HO_24) A102.out).mono ?_); rintro e w106 ⟨rfl, hb⟩; replace HO_3 := Sq.T HO_3 hb; replace HO_5 := Sq.T HO_5 hb; replace HO_9 := Sq.T HO_9 hb; replace HO_13 := Sq.T HO_13 hb; replace HO_24 := Sq.T HO_24 hb; replace HO_28 := Sq.T HO_28 hb; replace HO_32 := Sq.T HO_32 hb; replace HO_33 := Sq.T HO_33 hb; replace HO_35 := Sq.T HO_35 hb; replace HB := Sq.S HB hb; clear hb)); try go_wp2_with (first | (go_at_call 36; (with_reducible refine (impl_KitRange.calls kj96 _ _ t444 true t486 true _ (Sq.r HO_24) (Sq.n HO_24) A102.out).mono ?_); rintro e w106 ⟨rfl, hb⟩; replace HO_3 := Sq.T HO_3 hb; replace HO_5 := Sq.T HO_5 hb; replace HO_9 := Sq.T HO_9 hb; replace HO_13 := Sq.T HO_13 hb; replace HO_24 := Sq.T HO_24 hb; replace HO_28 := Sq.T HO_28 hb; replace HO_32 := Sq.T HO_32 hb; replace HO_33 := Sq.T HO_33 hb; replace HO_35 := Sq.T HO_35 hb; replace HB := Sq.S HB hb; clear hb)))
                go_meet
                case rel => exact ⟨_, H', ⟨by have := HJ23.out; have := HJ88.out; have := HJ90.out; have := HJ96.out; first | omega | exact Nat.le_refl _⟩, ⟨Kd.R_mono (Sq.R HO_3) (fun _ hk => ⟨hk.1, ⟨hk.2.1, ⟨hk.2.2.1, ⟨hk.2.2.2.2.1, ⟨hk.2.2.2.2.2.1, hk.2.2.2.2.2.2⟩⟩⟩⟩⟩)⟩, ⟨Kd.R_mono (Sq.R HO_5) (fun _ hk => ⟨hk.1, ⟨hk.2.1, ⟨hk.2.2.1, ⟨hk.2.2.2.2.1, ⟨hk.2.2.2.2.2.1, hk.2.2.2.2.2.2⟩⟩⟩⟩⟩)⟩, ⟨Kd.R_mono (Sq.R HO_9) (fun _ hk => ⟨hk.1, ⟨hk.2.1, ⟨hk.2.2.1, ⟨hk.2.2.2.2.1, ⟨hk.2.2.2.2.2.1, hk.2.2.2.2.2.2⟩⟩⟩⟩⟩)⟩, ⟨Kd.R_mono (Sq.R HO_13) (fun _ hk => ⟨hk.1, ⟨hk.2.1, ⟨hk.2.2.1, ⟨hk.2.2.2.2.1, ⟨hk.2.2.2.2.2.1, hk.2.2.2.2.2.2⟩⟩⟩⟩⟩)⟩, ⟨Kd.R_mono (Sq.R HO_28) (fun _ hk => ⟨hk.1, ⟨hk.2.1, ⟨hk.2.2.1, ⟨hk.2.2.2.1, ⟨hk.2.2.2.2.2.1, hk.2.2.2.2.2.2⟩⟩⟩⟩⟩)⟩, ⟨Kd.R_mono (Sq.R HO_32) (fun _ hk => ⟨hk.1, ⟨hk.2.1, ⟨hk.2.2.1, ⟨hk.2.2.2.1, ⟨hk.2.2.2.2.2.1, hk.2.2.2.2.2.2⟩⟩⟩⟩⟩)⟩, ⟨Kd.R_mono (Sq.R HO_33) (fun _ hk => ⟨hk.1, ⟨hk.2.1, ⟨hk.2.2.1, ⟨hk.2.2.2.1, ⟨hk.2.2.2.2.2.1, hk.2.2.2.2.2.2⟩⟩⟩⟩⟩)⟩, ⟨by (with_reducible repeat (first | apply Kd.R_alloc | apply Kd.R_drewN | apply Kd.R_drew)); exact HO_35.out⟩, ⟨Sq.B HB⟩⟩
              case rest =>
               clear HC100
               obtain ⟨kq, HA, HJ99, HO_3, HO_5, HO_9, HO_13, HO_28, HO_32, HO_33, HO_35, HB⟩ := hcut
               cases kq with
               | zero => exact absurd HA.out (by simp [laws_FnKits.j5])
               | succ kj99 =>
                have H := HA.out
                clear HA
                simp only [laws_FnKits.j5] at H
                have HC107 := Aside0.mk H
                clear H
                as_aux_lemma =>
                 go_upto_if 291 with (fail)
                 repeat (go_quiet (fail); go_upto_if 291 with (fail))
                 go_cut [] (fun wc => ∃ (kq : Nat), Aside0 (laws_FnKits.j6 kq t401 t402 t405 t406 t413 t414 t421 t460 t461 t462 t467 t468 = some r) ∧ Aside0 (kq ≤ kj99) ∧ Aside0 (Kd.R (Kd.int .i64) 3 wc w.heap.size (fun k_ => some k_ ≠ (v407 : Value).ownBlock ∧ some k_ ≠ (v415 : Value).ownBlock ∧ some k_ ≠ (v423 : Value).ownBlock ∧ some k_ ≠ ((.slice Ao47 t460.length co47) : Value).ownBlock ∧ some k_ ≠ ((.slice Ao48 t461.length co48) : Value).ownBlock) (.slice Ao26 t401.length co26) t401) ∧ Aside0 (Kd.R (Kd.int .i64) 3 wc w.heap.size (fun k_ => some k_ ≠ ((.slice Ao26 t401.length co26) : Value).ownBlock ∧ some k_ ≠ (v415 : Value).ownBlock ∧ some k_ ≠ (v423 : Value).ownBlock ∧ some k_ ≠ ((.slice Ao47 t460.length co47) : Value).ownBlock ∧ some k_ ≠ ((.slice Ao48 t461.length co48) : Value).ownBlock) v407 t405) ∧ Aside0 (Kd.R (Kd.int .i64) 3 wc w.heap.size (fun k_ => some k_ ≠ ((.slice Ao26 t401.length co26) : Value).ownBlock ∧ some k_ ≠ (v407 : Value).ownBlock ∧ some k_ ≠ (v423 : Value).ownBlock ∧ some k_ ≠ ((.slice Ao47 t460.length co47) : Value).ownBlock ∧ some k_ ≠ ((.slice Ao48 t461.length co48) : Value).ownBlock) v415 t413) ∧ Aside0 (Kd.R (Kd.int .i64) 3 wc w.heap.size (fun k_ => some k_ ≠ ((.slice Ao26 t401.length co26) : Value).ownBlock ∧ some k_ ≠ (v407 : Value).ownBlock ∧ some k_ ≠ (v415 : Value).ownBlock ∧ some k_ ≠ ((.slice Ao47 t460.length co47) : Value).ownBlock ∧ some k_ ≠ ((.slice Ao48 t461.length co48) : Value).ownBlock) v423 t421) ∧ Aside0 (Kd.R (Kd.int .i64) 3 wc w.heap.size (fun k_ => some k_ ≠ ((.slice Ao26 t401.length co26) : Value).ownBlock ∧ some k_ ≠ (v407 : Value).ownBlock ∧ some k_ ≠ (v415 : Value).ownBlock ∧ some k_ ≠ (v423 : Value).ownBlock ∧ some k_ ≠ ((.slice Ao48 t461.length co48) : Value).ownBlock) (.slice Ao47 t460.length co47) t460) ∧ Aside0 (Kd.R (Kd.int .i64) 3 wc w.heap.size (fun k_ => some k_ ≠ ((.slice Ao26 t401.length co26) : Value).ownBlock ∧ some k_ ≠ (v407 : Value).ownBlock ∧ some k_ ≠ (v415 : Value).ownBlock ∧ some k_ ≠ (v423 : Value).ownBlock ∧ some k_ ≠ ((.slice Ao47 t460.length co47) : Value).ownBlock) (.slice Ao48 t461.length co48) t461) ∧ Aside0 (Kd.R k96 96 wc w.heap.size (fun _ => True) v469 t467) ∧ Aside0 (Below w.heap.size w wc))
                 case first =>
                  have H := HC107.out
                  clear HC107
                  by_cases c108 : t453 = true
                  rotate_left
                  ·replace c108 := Bool.eq_false_iff.mpr c108
                   subst c108
                   rw [if_neg (show ¬ (false = true) by decide)] at H
                   as_aux_lemma =>
                    have H' := Aside0.mk H
                    clear H
                    go_wp2
                    repeat (go_quiet (fail); try go_wp2)
                    go_meet
                    case rel => exact ⟨_, H', ⟨by have := HJ23.out; have := HJ88.out; have := HJ90.out; have := HJ96.out; have := HJ99.out; first | omega | exact Nat.le_refl _⟩, ⟨Kd.R_mono (Sq.R HO_3) (fun _ hk => ⟨hk.1, ⟨hk.2.1, ⟨hk.2.2.1, ⟨hk.2.2.2.2.1, hk.2.2.2.2.2⟩⟩⟩⟩)⟩, ⟨Kd.R_mono (Sq.R HO_5) (fun _ hk => ⟨hk.1, ⟨hk.2.1, ⟨hk.2.2.1, ⟨hk.2.2.2.2.1, hk.2.2.2.2.2⟩⟩⟩⟩)⟩, ⟨Kd.R_mono (Sq.R HO_9) (fun _ hk => ⟨hk.1, ⟨hk.2.1, ⟨hk.2.2.1, ⟨hk.2.2.2.2.1, hk.2.2.2.2.2⟩⟩⟩⟩)⟩, ⟨Kd.R_mono (Sq.R HO_13) (fun _ hk => ⟨hk.1, ⟨hk.2.1, ⟨hk.2.2.1, ⟨hk.2.2.2.2.1, hk.2.2.2.2.2⟩⟩⟩⟩)⟩, ⟨Kd.R_mono (Sq.R HO_32) (fun _ hk => ⟨hk.1, ⟨hk.2.1, ⟨hk.2.2.1, ⟨hk.2.2.2.1, hk.2.2.2.2.2⟩⟩⟩⟩)⟩, ⟨Kd.R_mono (Sq.R HO_33) (fun _ hk => ⟨hk.1, ⟨hk.2.1, ⟨hk.2.2.1, ⟨hk.2.2.2.1, hk.2.2.2.2.2⟩⟩⟩⟩)⟩, ⟨by (with_reducible repeat (first | apply Kd.R_alloc | apply Kd.R_drewN | apply Kd.R_drew)); exact HO_35.out⟩, ⟨Sq.B HB⟩⟩
                  subst c108
                  rw [if_pos rfl] at H
                  replace H := Option.bind_eq_some_iff.mp H
                  obtain ⟨⟨t488, t489⟩, A1090, H⟩ := H
                  try dsimp only at H
                  have A109 := Aside0.mk A1090
                  clear A1090
                  by_cases c110 : t489 = true
                  rotate_left
                  ·replace c110 := Bool.eq_false_iff.mpr c110
                   subst c110
                   rw [if_neg (show ¬ (false = true) by decide)] at H
                   obtain rfl := Option.some.inj H
                   cases hr
                  subst c110
                  rw [if_pos rfl] at H
                  by_cases c111 : t488 = (wrap64 (x42_96 - 1))
                  rotate_left
                  ·rw [if_neg c111] at H
                   have c111b0 : (t488 == (wrap64 (x42_96 - 1))) = false := beq_eq_false_iff_ne.mpr c111
                   have c111b1 : (t488 != (wrap64 (x42_96 - 1))) = true := bne_iff_ne.mpr c111
                   (first | rw [c111b0] | (simp only [i64_w, i32_w]; rw [c111b0]) | skip)
                   obtain rfl := Option.some.inj H
                   cases hr
                  rw [if_pos c111] at H
                  have c111b0 : (t488 == (wrap64 (x42_96 - 1))) = true := beq_iff_eq.mpr c111
                  have c111b1 : (t488 != (wrap64 (x42_96 - 1))) = false := bne_eq_false_iff_eq.mpr c111
                  clear c111
                  (first | rw [c111b0] | (simp only [i64_w, i32_w]; rw [c111b0]) | skip)
                  as_aux_lemma =>
                   have H' := Aside0.mk H
                   clear H
                   obtain ⟨Ao112, co112, rfl⟩ := Kd.R_slice HO_28.out
                   go_wp2_with (first | (go_at_call 36; (with_reducible refine (impl_KitRange.calls kj99 _ _ t452 false t488 true _ (Sq.r HO_28) (Sq.n HO_28) A109.out).mono ?_); rintro e w113 ⟨rfl, hb⟩; replace HO_3 := Sq.T HO_3 hb; replace HO_5 := Sq.T HO_5 hb; replace HO_9 := Sq.T HO_9 hb; replace HO_13 := Sq.T HO_13 hb; replace HO_28 := Sq.T HO_28 hb; replace HO_32 := Sq.T HO_32 hb; replace HO_33 := Sq.T HO_33 hb; replace HO_35 := Sq.T HO_35 hb; replace HB := Sq.S HB hb; clear hb))
                   repeat (go_quiet (first | (go_at_call 36; (with_reducible refine (impl_KitRange.calls kj99 _ _ t452 false t488 true _ (Sq.r HO_28) (Sq.n HO_28) A109.out).mono ?_); rintro e w113 ⟨rfl, hb⟩; replace HO_3 := Sq.T HO_3 hb; replace HO_5 := Sq.T HO_5 hb; replace HO_9 := Sq.T HO_9 hb; replace HO_13 := Sq.T HO_13 hb; replace HO_28 := Sq.T HO_28 hb; replace HO_32 := Sq.T HO_32 hb; replace HO_33 := Sq.T HO_33 hb; replace HO_35 := Sq.T HO_35 hb; replace HB := Sq.S HB hb; clear hb)); try go_wp2_with (first | (go_at_call 36; (with_reducible refine (impl_KitRange.calls kj99 _ _ t452 false t488 true _ (Sq.r HO_28) (Sq.n HO_28) A109.out).mono ?_); rintro e w113 ⟨rfl, hb⟩; replace HO_3 := Sq.T HO_3 hb; replace HO_5 := Sq.T HO_5 hb; replace HO_9 := Sq.T HO_9 hb; replace HO_13 := Sq.T HO_13 hb; replace HO_28 := Sq.T HO_28 hb; replace HO_32 := Sq.T HO_32 hb; replace HO_33 := Sq.T HO_33 hb; replace HO_35 := Sq.T HO_35 hb; replace HB := Sq.S HB hb; clear hb)))
                   go_meet
                   case rel => exact ⟨_, H', ⟨by have := HJ23.out; have := HJ88.out; have := HJ90.out; have := HJ96.out; have := HJ99.out; first | omega | exact Nat.le_refl _⟩, ⟨Kd.R_mono (Sq.R HO_3) (fun _ hk => ⟨hk.1, ⟨hk.2.1, ⟨hk.2.2.1, ⟨hk.2.2.2.2.1, hk.2.2.2.2.2⟩⟩⟩⟩)⟩, ⟨Kd.R_mono (Sq.R HO_5) (fun _ hk => ⟨hk.1, ⟨hk.2.1, ⟨hk.2.2.1, ⟨hk.2.2.2.2.1, hk.2.2.2.2.2⟩⟩⟩⟩)⟩, ⟨Kd.R_mono (Sq.R HO_9) (fun _ hk => ⟨hk.1, ⟨hk.2.1, ⟨hk.2.2.1, ⟨hk.2.2.2.2.1, hk.2.2.2.2.2⟩⟩⟩⟩)⟩, ⟨Kd.R_mono (Sq.R HO_13) (fun _ hk => ⟨hk.1, ⟨hk.2.1, ⟨hk.2.2.1, ⟨hk.2.2.2.2.1, hk.2.2.2.2.2⟩⟩⟩⟩)⟩, ⟨Kd.R_mono (Sq.R HO_32) (fun _ hk => ⟨hk.1, ⟨hk.2.1, ⟨hk.2.2.1, ⟨hk.2.2.2.1, hk.2.2.2.2.2⟩⟩⟩⟩)⟩, ⟨Kd.R_mono (Sq.R HO_33) (fun _ hk => ⟨hk.1, ⟨hk.2.1, ⟨hk.2.2.1, ⟨hk.2.2.2.1, hk.2.2.2.2.2⟩⟩⟩⟩)⟩, ⟨by (with_reducible repeat (first | apply Kd.R_alloc | apply Kd.R_drewN | apply Kd.R_drew)); exact HO_35.out⟩, ⟨Sq.B HB⟩⟩
                 case rest =>
                  clear HC107
                  obtain ⟨kq, HA, HJ106, HO_3, HO_5, HO_9, HO_13, HO_32, HO_33, HO_35, HB⟩ := hcut
                  cases kq with
                  | zero => exact absurd HA.out (by simp [laws_FnKits.j6])
                  | succ kj106 =>
                   have H := HA.out
                   clear HA
                   simp only [laws_FnKits.j6] at H
                   have HC114 := Aside0.mk H
                   clear H
                   as_aux_lemma =>
                    go_upto_if 305 with (fail)
                    repeat (go_quiet (fail); go_upto_if 305 with (fail))
                    go_cut [] (fun wc => ∃ (kq : Nat), Aside0 (laws_FnKits.j8 kq t401 t402 t405 t406 t413 t414 t421 = some r) ∧ Aside0 (kq ≤ kj106) ∧ Aside0 (Kd.R (Kd.int .i64) 3 wc w.heap.size (fun k_ => some k_ ≠ (v407 : Value).ownBlock ∧ some k_ ≠ (v415 : Value).ownBlock ∧ some k_ ≠ (v423 : Value).ownBlock) (.slice Ao26 t401.length co26) t401) ∧ Aside0 (Kd.R (Kd.int .i64) 3 wc w.heap.size (fun k_ => some k_ ≠ ((.slice Ao26 t401.length co26) : Value).ownBlock ∧ some k_ ≠ (v415 : Value).ownBlock ∧ some k_ ≠ (v423 : Value).ownBlock) v407 t405) ∧ Aside0 (Kd.R (Kd.int .i64) 3 wc w.heap.size (fun k_ => some k_ ≠ ((.slice Ao26 t401.length co26) : Value).ownBlock ∧ some k_ ≠ (v407 : Value).ownBlock ∧ some k_ ≠ (v423 : Value).ownBlock) v415 t413) ∧ Aside0 (Kd.R (Kd.int .i64) 3 wc w.heap.size (fun k_ => some k_ ≠ ((.slice Ao26 t401.length co26) : Value).ownBlock ∧ some k_ ≠ (v407 : Value).ownBlock ∧ some k_ ≠ (v415 : Value).ownBlock) v423 t421) ∧ Aside0 (Below w.heap.size w wc))
                    case first =>
                     have H := HC114.out
                     clear HC114
                     by_cases c115 : t468 = true
                     rotate_left
                     ·replace c115 := Bool.eq_false_iff.mpr c115
                      subst c115
                      rw [if_neg (show ¬ (false = true) by decide)] at H
                      as_aux_lemma =>
                       have H' := Aside0.mk H
                       clear H
                       go_wp2
                       repeat (go_quiet (fail); try go_wp2)
                       go_meet
                       case rel => exact ⟨_, H', ⟨by have := HJ23.out; have := HJ88.out; have := HJ90.out; have := HJ96.out; have := HJ99.out; have := HJ106.out; first | omega | exact Nat.le_refl _⟩, ⟨Kd.R_mono (Sq.R HO_3) (fun _ hk => ⟨hk.1, ⟨hk.2.1, hk.2.2.1⟩⟩)⟩, ⟨Kd.R_mono (Sq.R HO_5) (fun _ hk => ⟨hk.1, ⟨hk.2.1, hk.2.2.1⟩⟩)⟩, ⟨Kd.R_mono (Sq.R HO_9) (fun _ hk => ⟨hk.1, ⟨hk.2.1, hk.2.2.1⟩⟩)⟩, ⟨Kd.R_mono (Sq.R HO_13) (fun _ hk => ⟨hk.1, ⟨hk.2.1, hk.2.2.1⟩⟩)⟩, ⟨Sq.B HB⟩⟩
                     subst c115
                     rw [if_pos rfl] at H
                     replace H := Option.bind_eq_some_iff.mp H
                     obtain ⟨⟨t490, t491⟩, A1160, H⟩ := H
                     try dsimp only at H
                     have A116 := Aside0.mk A1160
                     clear A1160
                     have H' := Aside0.mk H
                     clear H
                     obtain ⟨Ao117, co117, rfl⟩ := Kd.R_slice HO_35.out
                     as_aux_lemma =>
                      go_wp2_with (first | (go_at_call 49; (with_reducible refine (impl_MomentAbout.calls kj106 _ _ t467 30 t490 t491 _ (Sq.r HO_35) (Sq.n HO_35) A116.out).mono ?_); rintro e w118 ⟨rfl, hb⟩; replace HO_3 := Sq.T HO_3 hb; replace HO_5 := Sq.T HO_5 hb; replace HO_9 := Sq.T HO_9 hb; replace HO_13 := Sq.T HO_13 hb; replace HO_32 := Sq.T HO_32 hb; replace HO_33 := Sq.T HO_33 hb; replace HO_35 := Sq.T HO_35 hb; replace HB := Sq.S HB hb; clear hb))
                      repeat (go_quiet (first | (go_at_call 49; (with_reducible refine (impl_MomentAbout.calls kj106 _ _ t467 30 t490 t491 _ (Sq.r HO_35) (Sq.n HO_35) A116.out).mono ?_); rintro e w118 ⟨rfl, hb⟩; replace HO_3 := Sq.T HO_3 hb; replace HO_5 := Sq.T HO_5 hb; replace HO_9 := Sq.T HO_9 hb; replace HO_13 := Sq.T HO_13 hb; replace HO_32 := Sq.T HO_32 hb; replace HO_33 := Sq.T HO_33 hb; replace HO_35 := Sq.T HO_35 hb; replace HB := Sq.S HB hb; clear hb)); try go_wp2_with (first | (go_at_call 49; (with_reducible refine (impl_MomentAbout.calls kj106 _ _ t467 30 t490 t491 _ (Sq.r HO_35) (Sq.n HO_35) A116.out).mono ?_); rintro e w118 ⟨rfl, hb⟩; replace HO_3 := Sq.T HO_3 hb; replace HO_5 := Sq.T HO_5 hb; replace HO_9 := Sq.T HO_9 hb; replace HO_13 := Sq.T HO_13 hb; replace HO_32 := Sq.T HO_32 hb; replace HO_33 := Sq.T HO_33 hb; replace HO_35 := Sq.T HO_35 hb; replace HB := Sq.S HB hb; clear hb)))
                      go_loopg [50, 51] kj106 (fun kq v50 v51 w' => ∃ (x50_7 : Int) (x51_7 : Int), v50 = .int .i64 x50_7 ∧ v51 = .int .i64 x51_7 ∧ Aside0 (laws_FnKits.l1 kq t401 t402 t405 t406 t413 t414 t421 t460 t461 t462 t490 t491 x50_7 x51_7 = some r) ∧ Aside0 (kq ≤ kj106) ∧ Aside0 (Kd.R (Kd.int .i64) 3 w' w.heap.size (fun k_ => some k_ ≠ (v407 : Value).ownBlock ∧ some k_ ≠ (v415 : Value).ownBlock ∧ some k_ ≠ (v423 : Value).ownBlock ∧ some k_ ≠ ((.slice Ao47 t460.length co47) : Value).ownBlock ∧ some k_ ≠ ((.slice Ao48 t461.length co48) : Value).ownBlock) (.slice Ao26 t401.length co26) t401) ∧ Aside0 (Kd.R (Kd.int .i64) 3 w' w.heap.size (fun k_ => some k_ ≠ ((.slice Ao26 t401.length co26) : Value).ownBlock ∧ some k_ ≠ (v415 : Value).ownBlock ∧ some k_ ≠ (v423 : Value).ownBlock ∧ some k_ ≠ ((.slice Ao47 t460.length co47) : Value).ownBlock ∧ some k_ ≠ ((.slice Ao48 t461.length co48) : Value).ownBlock) v407 t405) ∧ Aside0 (Kd.R (Kd.int .i64) 3 w' w.heap.size (fun k_ => some k_ ≠ ((.slice Ao26 t401.length co26) : Value).ownBlock ∧ some k_ ≠ (v407 : Value).ownBlock ∧ some k_ ≠ (v423 : Value).ownBlock ∧ some k_ ≠ ((.slice Ao47 t460.length co47) : Value).ownBlock ∧ some k_ ≠ ((.slice Ao48 t461.length co48) : Value).ownBlock) v415 t413) ∧ Aside0 (Kd.R (Kd.int .i64) 3 w' w.heap.size (fun k_ => some k_ ≠ ((.slice Ao26 t401.length co26) : Value).ownBlock ∧ some k_ ≠ (v407 : Value).ownBlock ∧ some k_ ≠ (v415 : Value).ownBlock ∧ some k_ ≠ ((.slice Ao47 t460.length co47) : Value).ownBlock ∧ some k_ ≠ ((.slice Ao48 t461.length co48) : Value).ownBlock) v423 t421) ∧ Aside0 (Kd.R (Kd.int .i64) 3 w' w.heap.size (fun k_ => some k_ ≠ ((.slice Ao26 t401.length co26) : Value).ownBlock ∧ some k_ ≠ (v407 : Value).ownBlock ∧ some k_ ≠ (v415 : Value).ownBlock ∧ some k_ ≠ (v423 : Value).ownBlock ∧ some k_ ≠ ((.slice Ao48 t461.length co48) : Value).ownBlock) (.slice Ao47 t460.length co47) t460) ∧ Aside0 (Kd.R (Kd.int .i64) 3 w' w.heap.size (fun k_ => some k_ ≠ ((.slice Ao26 t401.length co26) : Value).ownBlock ∧ some k_ ≠ (v407 : Value).ownBlock ∧ some k_ ≠ (v415 : Value).ownBlock ∧ some k_ ≠ (v423 : Value).ownBlock ∧ some k_ ≠ ((.slice Ao47 t460.length co47) : Value).ownBlock) (.slice Ao48 t461.length co48) t461) ∧ Aside0 (Below w.heap.size w w'))
                      case atStart => exact ⟨(0), (0), (by first | rfl | (simp; done) | (simp [*]; done) | (simp [bne]; done)), (by first | rfl | (simp; done) | (simp [*]; done) | (simp [bne]; done)), H', ⟨Nat.le_refl _⟩, ⟨by (with_reducible repeat (first | apply Kd.R_alloc | apply Kd.R_drewN | apply Kd.R_drew)); exact HO_3.out⟩, ⟨by (with_reducible repeat (first | apply Kd.R_alloc | apply Kd.R_drewN | apply Kd.R_drew)); exact HO_5.out⟩, ⟨by (with_reducible repeat (first | apply Kd.R_alloc | apply Kd.R_drewN | apply Kd.R_drew)); exact HO_9.out⟩, ⟨by (with_reducible repeat (first | apply Kd.R_alloc | apply Kd.R_drewN | apply Kd.R_drew)); exact HO_13.out⟩, ⟨by (with_reducible repeat (first | apply Kd.R_alloc | apply Kd.R_drewN | apply Kd.R_drew)); exact HO_32.out⟩, ⟨by (with_reducible repeat (first | apply Kd.R_alloc | apply Kd.R_drewN | apply Kd.R_drew)); exact HO_33.out⟩, ⟨Sq.B HB⟩⟩
                      case round =>
                       clear H'
                       obtain ⟨x50_7, x51_7, rfl, rfl, HA, HK7, HO_3, HO_5, HO_9, HO_13, HO_32, HO_33, HB⟩ := hrel
                       cases gk with
                       | zero => exact absurd HA.out (by simp [laws_FnKits.l1])
                       | succ k7 =>
                        have H := HA.out
                        clear HA
                        simp only [laws_FnKits.l1] at H
                        by_cases c119 : x51_7 < (t460.length : Int)
                        rotate_left
                        ·rw [if_neg c119] at H
                         have c119b0 : decide (x51_7 < (t460.length : Int)) = false := decide_eq_false c119
                         clear c119
                         (first | rw [c119b0] | (simp only [i64_w, i32_w]; rw [c119b0]) | skip)
                         by_cases c122 : t491 = true
                         rotate_left
                         ·replace c122 := Bool.eq_false_iff.mpr c122
                          subst c122
                          rw [if_neg (show ¬ (false = true) by decide)] at H
                          obtain rfl := Option.some.inj H
                          cases hr
                         subst c122
                         rw [if_pos rfl] at H
                         by_cases c123 : ((t490 == 0) != (x50_7 == t462)) = true
                         ·rw [if_pos c123] at H
                          have c123b0 : ((t490 == 0) != (x50_7 == t462)) = true := c123
                          (try (have c123b1 : decide ((t490 == 0) = (x50_7 == t462)) = false := by simpa using c123))
                          (try (have c123b2 : ((t490 == 0) == (x50_7 == t462)) = false := by simpa using c123))
                          (try (have c123b3 : ¬ ((t490 == 0) = (x50_7 == t462)) := by simpa using c123))
                          clear c123
                          obtain rfl := Option.some.inj H
                          cases hr
                         rw [if_neg c123] at H
                         have c123b0 : ((t490 == 0) != (x50_7 == t462)) = false := by simpa using c123
                         (try (have c123b1 : decide ((t490 == 0) = (x50_7 == t462)) = true := by simpa using c123))
                         (try (have c123b2 : ((t490 == 0) == (x50_7 == t462)) = true := by simpa using c123))
                         clear c123
                         as_aux_lemma =>
                          have H' := Aside0.mk H
                          clear H
                          go_wp2
                          repeat (go_quiet (fail); try go_wp2)
                          go_meet
                          case rel => exact ⟨_, H', ⟨by have := HJ23.out; have := HJ88.out; have := HJ90.out; have := HJ96.out; have := HJ99.out; have := HJ106.out; have := HK7.out; first | omega | exact Nat.le_refl _⟩, ⟨Kd.R_mono (Sq.R HO_3) (fun _ hk => ⟨hk.1, ⟨hk.2.1, hk.2.2.1⟩⟩)⟩, ⟨Kd.R_mono (Sq.R HO_5) (fun _ hk => ⟨hk.1, ⟨hk.2.1, hk.2.2.1⟩⟩)⟩, ⟨Kd.R_mono (Sq.R HO_9) (fun _ hk => ⟨hk.1, ⟨hk.2.1, hk.2.2.1⟩⟩)⟩, ⟨Kd.R_mono (Sq.R HO_13) (fun _ hk => ⟨hk.1, ⟨hk.2.1, hk.2.2.1⟩⟩)⟩, ⟨Sq.B HB⟩⟩
                        rw [if_pos c119] at H
                        have c119b0 : decide (x51_7 < (t460.length : Int)) = true := decide_eq_true c119
                        clear c119
                        (first | rw [c119b0] | (simp only [i64_w, i32_w]; rw [c119b0]) | skip)
                        by_cases c120 : 0 ≤ x51_7
                        rotate_left
                        ·rw [if_neg c120] at H
                         exact absurd H (by simp)
                        rw [if_pos c120] at H
                        have c120b0 : decide (0 ≤ x51_7) = true := decide_eq_true c120
                        clear c120
                        by_cases c121 : x51_7 < (t461.length : Int)
                        rotate_left
                        ·rw [if_neg c121] at H
                         exact absurd H (by simp)
                        rw [if_pos c121] at H
                        have c121b0 : decide (x51_7 < (t461.length : Int)) = true := decide_eq_true c121
                        clear c121
                        as_aux_lemma =>
                         have H' := Aside0.mk H
                         clear H
                         have p492 : 0 ≤ (x51_7 : Int) := of_decide_eq_true (by first | (with_reducible assumption) | assumption)
                         have q492 : x51_7 < (t460.length : Int) := of_decide_eq_true (by first | (with_reducible assumption) | assumption)
                         obtain ⟨ad492, e492, hx492_0⟩ := Kd.at_int (Kd.R_reads' HO_32.out).2.2 x51_7 p492 q492
                         cases e492
                         replace p492 := eq_true p492
                         replace q492 := eq_true q492
                         have p493 : 0 ≤ (x51_7 : Int) := of_decide_eq_true (by first | (with_reducible assumption) | assumption)
                         have q493 : x51_7 < (t461.length : Int) := of_decide_eq_true (by first | (with_reducible assumption) | assumption)
                         obtain ⟨ad493, e493, hx493_0⟩ := Kd.at_int (Kd.R_reads' HO_33.out).2.2 x51_7 p493 q493
                         cases e493
                         replace p493 := eq_true p493
                         replace q493 := eq_true q493
                         go_wp2
                         repeat (go_quiet (fail); try go_wp2)
                         go_roundg k7
                         case measure => have := HJ23.out; have := HJ88.out; have := HJ90.out; have := HJ96.out; have := HJ99.out; have := HJ106.out; have := HK7.out; omega
                         case rel => exact ⟨(wrap64 (x50_7 + (wrap64 ((rd t460 x51_7) * (rd t461 x51_7))))), (wrap64 (x51_7 + 1)), (by first | rfl | (simp; done) | (simp [*]; done) | (simp [bne]; done)), (by first | rfl | (simp; done) | (simp [*]; done) | (simp [bne]; done)), H', ⟨by have := HJ23.out; have := HJ88.out; have := HJ90.out; have := HJ96.out; have := HJ99.out; have := HJ106.out; have := HK7.out; omega⟩, ⟨by (with_reducible repeat (first | apply Kd.R_alloc | apply Kd.R_drewN | apply Kd.R_drew)); exact HO_3.out⟩, ⟨by (with_reducible repeat (first | apply Kd.R_alloc | apply Kd.R_drewN | apply Kd.R_drew)); exact HO_5.out⟩, ⟨by (with_reducible repeat (first | apply Kd.R_alloc | apply Kd.R_drewN | apply Kd.R_drew)); exact HO_9.out⟩, ⟨by (with_reducible repeat (first | apply Kd.R_alloc | apply Kd.R_drewN | apply Kd.R_drew)); exact HO_13.out⟩, ⟨by (with_reducible repeat (first | apply Kd.R_alloc | apply Kd.R_drewN | apply Kd.R_drew)); exact HO_32.out⟩, ⟨by (with_reducible repeat (first | apply Kd.R_alloc | apply Kd.R_drewN | apply Kd.R_drew)); exact HO_33.out⟩, ⟨Sq.B HB⟩⟩
                    case rest =>
                     clear HC114; try clear hx4; try clear hx49; try clear hx492_0; try clear hx493_0
                     obtain ⟨kq, HA, HJ113, HO_3, HO_5, HO_9, HO_13, HB⟩ := hcut
                     cases kq with
                     | zero => exact absurd HA.out (by simp [laws_FnKits.j8])
                     | succ kj113 =>
                      have H := HA.out
                      clear HA
                      simp only [laws_FnKits.j8] at H
                      by_cases c124 : t414 = true
                      rotate_left
                      ·replace c124 := Bool.eq_false_iff.mpr c124
                       subst c124
                       rw [if_neg (show ¬ (false = true) by decide)] at H
                       as_aux_lemma =>
                        obtain rfl := Option.some.inj H
                        go_wp2
                        repeat (go_quiet (fail); try go_wp2)
                        go_ret
                        exact ⟨by first | rfl | (simp [errW_none, errW_some] <;> rfl) | (simp [*, errW_none, errW_some] <;> rfl), Sq.B HB⟩

                      subst c124
                      rw [if_pos rfl] at H
                      have H' := Aside0.mk H
                      clear H
                      as_aux_lemma =>
                       go_wp2
                       repeat (go_quiet (fail); try go_wp2)
                       go_loopg [52] kj113 (fun kq v52 w' => ∃ (x52_8 : Int), v52 = .int .i64 x52_8 ∧ Aside0 (laws_FnKits.l2 kq t401 t402 t405 t406 t413 t421 x52_8 = some r) ∧ Aside0 (kq ≤ kj113) ∧ Aside0 (Kd.R (Kd.int .i64) 3 w' w.heap.size (fun k_ => some k_ ≠ (v407 : Value).ownBlock ∧ some k_ ≠ (v415 : Value).ownBlock ∧ some k_ ≠ (v423 : Value).ownBlock) (.slice Ao26 t401.length co26) t401) ∧ Aside0 (Kd.R (Kd.int .i64) 3 w' w.heap.size (fun k_ => some k_ ≠ ((.slice Ao26 t401.length co26) : Value).ownBlock ∧ some k_ ≠ (v415 : Value).ownBlock ∧ some k_ ≠ (v423 : Value).ownBlock) v407 t405) ∧ Aside0 (Kd.R (Kd.int .i64) 3 w' w.heap.size (fun k_ => some k_ ≠ ((.slice Ao26 t401.length co26) : Value).ownBlock ∧ some k_ ≠ (v407 : Value).ownBlock ∧ some k_ ≠ (v423 : Value).ownBlock) v415 t413) ∧ Aside0 (Kd.R (Kd.int .i64) 3 w' w.heap.size (fun k_ => some k_ ≠ ((.slice Ao26 t401.length co26) : Value).ownBlock ∧ some k_ ≠ (v407 : Value).ownBlock ∧ some k_ ≠ (v415 : Value).ownBlock) v423 t421) ∧ Aside0 (Below w.heap.size w w'))
                       case atStart => exact ⟨(0), (by first | rfl | (simp; done) | (simp [*]; done) | (simp [bne]; done)), H', ⟨Nat.le_refl _⟩, ⟨by (with_reducible repeat (first | apply Kd.R_alloc | apply Kd.R_drewN | apply Kd.R_drew)); exact HO_3.out⟩, ⟨by (with_reducible repeat (first | apply Kd.R_alloc | apply Kd.R_drewN | apply Kd.R_drew)); exact HO_5.out⟩, ⟨by (with_reducible repeat (first | apply Kd.R_alloc | apply Kd.R_drewN | apply Kd.R_drew)); exact HO_9.out⟩, ⟨by (with_reducible repeat (first | apply Kd.R_alloc | apply Kd.R_drewN | apply Kd.R_drew)); exact HO_13.out⟩, ⟨Sq.B HB⟩⟩
                       case round =>
                        clear H'; try clear hx4; try clear hx49; try clear hx492_0; try clear hx493_0
                        obtain ⟨x52_8, rfl, HA, HK8, HO_3, HO_5, HO_9, HO_13, HB⟩ := hrel
                        cases gk with
                        | zero => exact absurd HA.out (by simp [laws_FnKits.l2])
                        | succ k8 =>
                         have H := HA.out
                         clear HA
                         simp only [laws_FnKits.l2] at H
                         by_cases c125 : x52_8 < (t413.length : Int)
                         ·rw [if_pos c125] at H
                          have c125b0 : decide (x52_8 < (t413.length : Int)) = true := decide_eq_true c125
                          clear c125
                          by_cases c126 : 0 ≤ x52_8
                          rotate_left
                          ·rw [if_neg c126] at H
                           exact absurd H (by simp)
                          rw [if_pos c126] at H
                          have c126b0 : decide (0 ≤ x52_8) = true := decide_eq_true c126
                          clear c126
                          replace H := Option.bind_eq_some_iff.mp H
                          obtain ⟨t495, A1270, H⟩ := H
                          try dsimp only at H
                          have A127 := Aside0.mk A1270
                          clear A1270
                          by_cases c128 : t495 = true
                          rotate_left
                          ·replace c128 := Bool.eq_false_iff.mpr c128
                           subst c128
                           rw [if_neg (show ¬ (false = true) by decide)] at H
                           obtain rfl := Option.some.inj H
                           cases hr
                          subst c128
                          rw [if_pos rfl] at H
                          as_aux_lemma =>
                           have H' := Aside0.mk H
                           clear H
                           obtain ⟨Ao129, co129, rfl⟩ := Kd.R_slice HO_9.out
                           have p494 : 0 ≤ (x52_8 : Int) := of_decide_eq_true (by first | (with_reducible assumption) | assumption)
                           have q494 : x52_8 < (t413.length : Int) := of_decide_eq_true (by first | (with_reducible assumption) | assumption)
                           obtain ⟨ad494, e494, hx494_0⟩ := Kd.at_int (Kd.R_reads' HO_9.out).2.2 x52_8 p494 q494
                           cases e494
                           replace p494 := eq_true p494
                           replace q494 := eq_true q494
                           obtain ⟨Ao130, co130, rfl⟩ := Kd.R_slice HO_13.out
                           go_wp2_with (first | (go_at_call 50; (with_reducible refine (laws_vHas.calls k8 _ _ t421 (rd t413 x52_8) true _ (Sq.r HO_13) (Sq.n HO_13) A127.out).mono ?_); rintro e w' ⟨rfl, ⟨nd, rfl⟩⟩; (try first | exact ⟨rfl, _, Sq.dd⟩ | exact ⟨rfl, _, Sq.de⟩)))
                           repeat (go_quiet (first | (go_at_call 50; (with_reducible refine (laws_vHas.calls k8 _ _ t421 (rd t413 x52_8) true _ (Sq.r HO_13) (Sq.n HO_13) A127.out).mono ?_); rintro e w' ⟨rfl, ⟨nd, rfl⟩⟩; (try first | exact ⟨rfl, _, Sq.dd⟩ | exact ⟨rfl, _, Sq.de⟩))); try go_wp2_with (first | (go_at_call 50; (with_reducible refine (laws_vHas.calls k8 _ _ t421 (rd t413 x52_8) true _ (Sq.r HO_13) (Sq.n HO_13) A127.out).mono ?_); rintro e w' ⟨rfl, ⟨nd, rfl⟩⟩; (try first | exact ⟨rfl, _, Sq.dd⟩ | exact ⟨rfl, _, Sq.de⟩))))
                           go_roundg k8
                           case measure => have := HJ23.out; have := HJ88.out; have := HJ90.out; have := HJ96.out; have := HJ99.out; have := HJ106.out; have := HJ113.out; have := HK8.out; omega
                           case rel => exact ⟨(wrap64 (x52_8 + 1)), (by first | rfl | (simp; done) | (simp [*]; done) | (simp [bne]; done)), H', ⟨by have := HJ23.out; have := HJ88.out; have := HJ90.out; have := HJ96.out; have := HJ99.out; have := HJ106.out; have := HJ113.out; have := HK8.out; omega⟩, ⟨by (with_reducible repeat (first | apply Kd.R_alloc | apply Kd.R_drewN | apply Kd.R_drew)); exact HO_3.out⟩, ⟨by (with_reducible repeat (first | apply Kd.R_alloc | apply Kd.R_drewN | apply Kd.R_drew)); exact HO_5.out⟩, ⟨by (with_reducible repeat (first | apply Kd.R_alloc | apply Kd.R_drewN | apply Kd.R_drew)); exact HO_9.out⟩, ⟨by (with_reducible repeat (first | apply Kd.R_alloc | apply Kd.R_drewN | apply Kd.R_drew)); exact HO_13.out⟩, ⟨Sq.B HB⟩⟩
                         rw [if_neg c125] at H
                         have c125b0 : decide (x52_8 < (t413.length : Int)) = false := decide_eq_false c125
                         clear c125
                         have HC131 := Aside0.mk H
                         clear H
                         obtain ⟨Ao132, co132, rfl⟩ := Kd.R_slice HO_9.out
                         as_aux_lemma =>
                          go_upto_region 57 with (fail)
                          repeat (go_quiet (fail); go_upto_region 57 with (fail))
                          go_cut [363] (fun v363 wc => ∃ (kq : Nat) (x363_130 : Bool), v363 = .bool x363_130 ∧ Aside0 (laws_FnKits.j10 kq t401 t402 t405 t406 x363_130 = some r) ∧ Aside0 (kq ≤ k8) ∧ Aside0 (Kd.R (Kd.int .i64) 3 wc w.heap.size (fun k_ => some k_ ≠ (v407 : Value).ownBlock) (.slice Ao26 t401.length co26) t401) ∧ Aside0 (Kd.R (Kd.int .i64) 3 wc w.heap.size (fun k_ => some k_ ≠ ((.slice Ao26 t401.length co26) : Value).ownBlock) v407 t405) ∧ Aside0 (Below w.heap.size w wc))
                          case first =>
                           have H := HC131.out
                           clear HC131
                           by_cases c133 : t402 ≥ 1
                           rotate_left
                           ·rw [if_neg c133] at H
                            have c133b0 : decide (1 ≤ t402) = false := decide_eq_false c133
                            clear c133
                            (first | rw [c133b0] | (simp only [i64_w, i32_w]; rw [c133b0]) | skip)
                            as_aux_lemma =>
                             have H' := Aside0.mk H
                             clear H
                             go_wp2
                             repeat (go_quiet (fail); try go_wp2)
                             go_meet
                             case rel => exact ⟨_, (false), (by first | rfl | (simp; done) | (simp [*]; done) | (simp [bne]; done)), H', ⟨by have := HJ23.out; have := HJ88.out; have := HJ90.out; have := HJ96.out; have := HJ99.out; have := HJ106.out; have := HJ113.out; have := HK8.out; first | omega | exact Nat.le_refl _⟩, ⟨Kd.R_mono (Sq.R HO_3) (fun _ hk => hk.1)⟩, ⟨Kd.R_mono (Sq.R HO_5) (fun _ hk => hk.1)⟩, ⟨Sq.B HB⟩⟩
                           rw [if_pos c133] at H
                           have c133b0 : decide (1 ≤ t402) = true := decide_eq_true c133
                           clear c133
                           (first | rw [c133b0] | (simp only [i64_w, i32_w]; rw [c133b0]) | skip)
                           replace H := Option.bind_eq_some_iff.mp H
                           obtain ⟨t496, A1340, H⟩ := H
                           try dsimp only at H
                           have A134 := Aside0.mk A1340
                           clear A1340
                           as_aux_lemma =>
                            have H' := Aside0.mk H
                            clear H
                            obtain ⟨Ao135, co135, rfl⟩ := Kd.R_slice HO_13.out
                            go_wp2_with (first | (go_at_call 50; (with_reducible refine (laws_vHas.calls k8 _ _ t421 t402 t496 _ (Sq.r HO_13) (Sq.n HO_13) A134.out).mono ?_); rintro e w' ⟨rfl, ⟨nd, rfl⟩⟩; (try first | exact ⟨rfl, _, Sq.dd⟩ | exact ⟨rfl, _, Sq.de⟩)))
                            repeat (go_quiet (first | (go_at_call 50; (with_reducible refine (laws_vHas.calls k8 _ _ t421 t402 t496 _ (Sq.r HO_13) (Sq.n HO_13) A134.out).mono ?_); rintro e w' ⟨rfl, ⟨nd, rfl⟩⟩; (try first | exact ⟨rfl, _, Sq.dd⟩ | exact ⟨rfl, _, Sq.de⟩))); try go_wp2_with (first | (go_at_call 50; (with_reducible refine (laws_vHas.calls k8 _ _ t421 t402 t496 _ (Sq.r HO_13) (Sq.n HO_13) A134.out).mono ?_); rintro e w' ⟨rfl, ⟨nd, rfl⟩⟩; (try first | exact ⟨rfl, _, Sq.dd⟩ | exact ⟨rfl, _, Sq.de⟩))))
                            go_meet
                            case rel => exact ⟨_, ((t406 != t496)), (by first | rfl | (simp; done) | (simp [*]; done) | (simp [bne]; done)), H', ⟨by have := HJ23.out; have := HJ88.out; have := HJ90.out; have := HJ96.out; have := HJ99.out; have := HJ106.out; have := HJ113.out; have := HK8.out; first | omega | exact Nat.le_refl _⟩, ⟨Kd.R_mono (Sq.R HO_3) (fun _ hk => hk.1)⟩, ⟨Kd.R_mono (Sq.R HO_5) (fun _ hk => hk.1)⟩, ⟨Sq.B HB⟩⟩
                          case rest =>
                           clear HC131; try clear hx4; try clear hx49; try clear hx492_0; try clear hx493_0; try clear hx494_0
                           obtain ⟨kq, x363_130, rfl, HA, HJ130, HO_3, HO_5, HB⟩ := hcut
                           cases kq with
                           | zero => exact absurd HA.out (by simp [laws_FnKits.j10])
                           | succ kj130 =>
                            have H := HA.out
                            clear HA
                            simp only [laws_FnKits.j10] at H
                            by_cases c136 : x363_130 = true
                            ·subst c136
                             rw [if_pos rfl] at H
                             obtain rfl := Option.some.inj H
                             cases hr
                            replace c136 := Bool.eq_false_iff.mpr c136
                            subst c136
                            rw [if_neg (show ¬ (false = true) by decide)] at H
                            by_cases c137 : t406 = true
                            rotate_left
                            ·replace c137 := Bool.eq_false_iff.mpr c137
                             subst c137
                             rw [if_neg (show ¬ (false = true) by decide)] at H
                             as_aux_lemma =>
                              obtain rfl := Option.some.inj H
                              go_wp2
                              repeat (go_quiet (fail); try go_wp2)
                              go_ret
                              exact ⟨by first | rfl | (simp [errW_none, errW_some] <;> rfl) | (simp [*, errW_none, errW_some] <;> rfl), Sq.B HB⟩
                            subst c137
                            rw [if_pos rfl] at H
                            have H' := Aside0.mk H
                            clear H
                            as_aux_lemma =>
                             go_wp2
                             repeat (go_quiet (fail); try go_wp2)
                             go_loopg [53, 54] kj130 (fun kq v53 v54 w' => ∃ (x53_10 : Int) (x54_10 : Int), v53 = .int .i64 x53_10 ∧ v54 = .int .i64 x54_10 ∧ Aside0 (laws_FnKits.l3 kq t401 t402 t405 x53_10 x54_10 = some r) ∧ Aside0 (kq ≤ kj130) ∧ Aside0 (Kd.R (Kd.int .i64) 3 w' w.heap.size (fun k_ => some k_ ≠ (v407 : Value).ownBlock) (.slice Ao26 t401.length co26) t401) ∧ Aside0 (Kd.R (Kd.int .i64) 3 w' w.heap.size (fun k_ => some k_ ≠ ((.slice Ao26 t401.length co26) : Value).ownBlock) v407 t405) ∧ Aside0 (Below w.heap.size w w'))
                             case atStart => exact ⟨(0), (0), (by first | rfl | (simp; done) | (simp [*]; done) | (simp [bne]; done)), (by first | rfl | (simp; done) | (simp [*]; done) | (simp [bne]; done)), H', ⟨Nat.le_refl _⟩, ⟨by (with_reducible repeat (first | apply Kd.R_alloc | apply Kd.R_drewN | apply Kd.R_drew)); exact HO_3.out⟩, ⟨by (with_reducible repeat (first | apply Kd.R_alloc | apply Kd.R_drewN | apply Kd.R_drew)); exact HO_5.out⟩, ⟨Sq.B HB⟩⟩
                             case round =>
                              clear H'; try clear hx4; try clear hx49; try clear hx492_0; try clear hx493_0; try clear hx494_0
                              obtain ⟨x53_10, x54_10, rfl, rfl, HA, HK10, HO_3, HO_5, HB⟩ := hrel
                              cases gk with
                              | zero => exact absurd HA.out (by simp [laws_FnKits.l3])
                              | succ k10 =>
                               have H := HA.out
                               clear HA
                               simp only [laws_FnKits.l3] at H
                               by_cases c138 : x54_10 < (t401.length : Int)
                               rotate_left
                               ·rw [if_neg c138] at H
                                have c138b0 : decide (x54_10 < (t401.length : Int)) = false := decide_eq_false c138
                                clear c138
                                as_aux_lemma =>
                                 obtain rfl := Option.some.inj H
                                 go_wp2
                                 repeat (go_quiet (fail); try go_wp2)
                                 go_ret
                                 exact ⟨by first | rfl | (simp [errW_none, errW_some] <;> rfl) | (simp [*, errW_none, errW_some] <;> rfl), Sq.B HB⟩
                               rw [if_pos c138] at H
                               have c138b0 : decide (x54_10 < (t401.length : Int)) = true := decide_eq_true c138
                               clear c138
                               by_cases c139 : 0 ≤ x54_10
                               rotate_left
                               ·rw [if_neg c139] at H
                                exact absurd H (by simp)
                               rw [if_pos c139] at H
                               have c139b0 : decide (0 ≤ x54_10) = true := decide_eq_true c139
                               clear c139
                               by_cases c140 : x54_10 < (t405.length : Int)
                               rotate_left
                               ·rw [if_neg c140] at H
                                exact absurd H (by simp)
                               rw [if_pos c140] at H
                               have c140b0 : decide (x54_10 < (t405.length : Int)) = true := decide_eq_true c140
                               clear c140
                               as_aux_lemma =>
                                have H' := Aside0.mk H
                                clear H
                                have p497 : 0 ≤ (x54_10 : Int) := of_decide_eq_true (by first | (with_reducible assumption) | assumption)
                                have q497 : x54_10 < (t401.length : Int) := of_decide_eq_true (by first | (with_reducible assumption) | assumption)
                                obtain ⟨ad497, e497, hx497_0⟩ := Kd.at_int (Kd.R_reads' HO_3.out).2.2 x54_10 p497 q497
                                cases e497
                                replace p497 := eq_true p497
                                replace q497 := eq_true q497
                                obtain ⟨Ao141, co141, rfl⟩ := Kd.R_slice HO_5.out
                                have p498 : 0 ≤ (x54_10 : Int) := of_decide_eq_true (by first | (with_reducible assumption) | assumption)
                                have q498 : x54_10 < (t405.length : Int) := of_decide_eq_true (by first | (with_reducible assumption) | assumption)
                                obtain ⟨ad498, e498, hx498_0⟩ := Kd.at_int (Kd.R_reads' HO_5.out).2.2 x54_10 p498 q498
                                cases e498
                                replace p498 := eq_true p498
                                replace q498 := eq_true q498
                                go_wp2
                                repeat (go_quiet (fail); try go_wp2)
                                go_roundg k10
                                case measure => have := HJ23.out; have := HJ88.out; have := HJ90.out; have := HJ96.out; have := HJ99.out; have := HJ106.out; have := HJ113.out; have := HK8.out; have := HJ130.out; have := HK10.out; omega
                                case rel => exact ⟨(wrap64 (x53_10 + (wrap64 ((rd t401 x54_10) * (rd t405 x54_10))))), (wrap64 (x54_10 + 1)), (by first | rfl | (simp; done) | (simp [*]; done) | (simp [bne]; done)), (by first | rfl | (simp; done) | (simp [*]; done) | (simp [bne]; done)), H', ⟨by have := HJ23.out; have := HJ88.out; have := HJ90.out; have := HJ96.out; have := HJ99.out; have := HJ106.out; have := HJ113.out; have := HK8.out; have := HJ130.out; have := HK10.out; omega⟩, ⟨by (with_reducible repeat (first | apply Kd.R_alloc | apply Kd.R_drewN | apply Kd.R_drew)); exact HO_3.out⟩, ⟨by (with_reducible repeat (first | apply Kd.R_alloc | apply Kd.R_drewN | apply Kd.R_drew)); exact HO_5.out⟩, ⟨Sq.B HB⟩⟩
theorem laws_FnKits.walk (P : laws_FnKits.Pure) (a0 : Option Addr) (len0 cap0 : Nat) (z0 : List Int) (w : World) (w0 : (a0 = none ∧ len0 = 0 ∧ cap0 = 0 ∧ z0 = []) ∨ ∃ x, a0 = some x ∧ len0 ≤ cap0 ∧ cap0 ≤ maxLen ∧ z0.length = cap0 ∧ (∀ i, i < z0.length → w.cell? (x.add i) = some (.int .u8 (z0.getD i 0))) ∧ ∀ n ∈ z0, (Lit.int .u8 n).wf = true) (y0 : len0 * 1 ≤ 140737488351232) :
  Calls Try.prog 4 #[.slice a0 len0 cap0] w fun e w' => e = .returned (.bool true) ∧ Below w.heap.size w w' := by
 obtain ⟨l0, rfl, hr0, hm0, hw0, hc0⟩ := ReadsInt.ofRowC w0
 obtain ⟨k, h⟩ := P l0 hm0 y0 hw0
 refine (laws_FnKits.calls k _ _ l0 true w (Kd.C_of_reads (d := (0 : Int)) (h1 := fun _ => rfl) hr0) hc0 h rfl).mono ?_
 rintro e w' ⟨rfl, hd⟩
 exact ⟨rfl, hd⟩

end Go.Proofs.Ytgnmomdgfamhnaa.PFnKits
