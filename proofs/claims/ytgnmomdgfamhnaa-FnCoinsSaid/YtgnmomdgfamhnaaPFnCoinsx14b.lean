-- Made by wip/pr.py of this repo over the kit's print (some contracts by hand).
import Derived.Test.YtgnmomdgfamhnaaSq
import Derived.Test.YtgnmomdgfamhnaaPFnCoinsx0
import Derived.Test.YtgnmomdgfamhnaaPFnCoinsx1
import Derived.Test.YtgnmomdgfamhnaaPFnCoinsx3
import Derived.Test.YtgnmomdgfamhnaaPFnCoinsx6
import Derived.Test.YtgnmomdgfamhnaaPFnCoinsx7
import Derived.Test.YtgnmomdgfamhnaaPFnCoinsx8
import Derived.Test.YtgnmomdgfamhnaaPFnCoinsx9
import Derived.Test.YtgnmomdgfamhnaaPFnCoinsx10
import Derived.Test.YtgnmomdgfamhnaaPFnCoinsx12
import Derived.Test.YtgnmomdgfamhnaaPFnCoinsx13
import Derived.Test.YtgnmomdgfamhnaaPFnCoinsx14
namespace Go.Proofs.Ytgnmomdgfamhnaa.PFnCoins
open Go.RowKit Go.Proofs.YtgnmomdgfamhnaaW.PrintWords Go.Proofs.YtgnmomdgfamhnaaW.PrintLast Go.Proofs.YtgnmomdgfamhnaaW.PrintMore
attribute [local go_sem] max2_int min2_int max_two min_two max_three min_three max_four min_four   -- for this text's walks alone
set_option linter.unusedVariables false
set_option linter.unusedSimpArgs false
set_option maxHeartbeats 8000000 in
set_option maxRecDepth 100000 in
theorem laws_FnCoins.calls (k : Nat) (A0 : Option Addr) (c0 : Nat) (l0 : List Int) (r : Bool) (w : World) (hr0 : Kd.C (Kd.int .u8) w A0 l0.length l0) (hc0 : l0.length ≤ c0) (h : laws_FnCoins.f k l0 = some r) (hr : r = true) :
  Calls Try.prog 3 #[.slice A0 l0.length c0] w fun e w' => e = .returned (.bool r) ∧ Below w.heap.size w w' := by
 have hqA := fun (W : World) (a b c d : Int) => laws_FnCoins.eqA W a b c d
 have hu47 := Try.underlying47
 have HR0 := Aside0.mk hr0
 have HC0 := Aside0.mk hc0
 clear hr0 hc0
 have HB := Aside0.mk (Below.refl w.heap.size w)
 have H : ((laws_vBig.f l0).bind fun t349 => (if t349 = true then (some true) else ((spec_DrawCoinsWith.f k l0).bind fun bt350 => ((impl_CoinsWith.f k bt350.1 bt350.2.1 bt350.2.2).bind fun bt357 => ((spec_CoinsWith.f k bt350.1 bt350.2.1 bt350.2.2).bind fun bt361 => ((laws_vCut.f l0 1).bind fun t365 => ((spec_DrawTellsHeavy.f k t365).bind fun bt368 => ((impl_TellsHeavy.f k bt368.1 bt368.2).bind fun bt372 => ((spec_TellsHeavy.f k bt368.1 bt368.2).bind fun bt374 => ((impl_TellsBoth.f k bt368.1 bt368.2).bind fun bt376 => ((spec_TellsBoth.f k bt368.1 bt368.2).bind fun bt378 => ((impl_IsCoinPlan.f k bt368.1 bt368.2).bind fun bt380 => ((spec_IsCoinPlan.f k bt368.1 bt368.2).bind fun bt382 => ((laws_vCut.f l0 2).bind fun t384 => ((spec_DrawCoinOutcome.f k t384).bind fun bt387 => ((impl_CoinOutcome.f k bt387.1 bt387.2.1 bt387.2.2.1 bt387.2.2.2).bind fun bt393 => ((spec_CoinOutcome.f k bt387.1 bt387.2.1 bt387.2.2.1 bt387.2.2.2).bind fun bt397 => ((impl_HeavyPlan.f k bt350.1).bind fun bt401 => ((spec_HeavyPlan.f k bt350.1).bind fun bt405 => ((impl_WeighingsNeeded.f k bt350.1).bind fun bt409 => ((spec_WeighingsNeeded.f k bt350.1).bind fun bt411 => (if (bt357.2 != bt361.2) = true then (laws_FnCoins.j0 k bt350.1 bt350.2.1 bt350.2.2 bt357.1 bt357.2 bt368.1 bt368.2 bt372.1 bt372.2 bt376.1 bt387.1 bt387.2.1 bt387.2.2.1 bt387.2.2.2 bt393.1 bt393.2 bt401.1 bt401.2 bt409.1 bt409.2 true) else ((laws_vPairs.f k bt357.1 bt361.1).bind fun t413 => (if t413 = true then (if (bt372.1 != bt374.1) = true then (laws_FnCoins.j0 k bt350.1 bt350.2.1 bt350.2.2 bt357.1 bt357.2 bt368.1 bt368.2 bt372.1 bt372.2 bt376.1 bt387.1 bt387.2.1 bt387.2.2.1 bt387.2.2.2 bt393.1 bt393.2 bt401.1 bt401.2 bt409.1 bt409.2 true) else (if (bt372.2 != bt374.2) = true then (laws_FnCoins.j0 k bt350.1 bt350.2.1 bt350.2.2 bt357.1 bt357.2 bt368.1 bt368.2 bt372.1 bt372.2 bt376.1 bt387.1 bt387.2.1 bt387.2.2.1 bt387.2.2.2 bt393.1 bt393.2 bt401.1 bt401.2 bt409.1 bt409.2 true) else (if (bt376.1 != bt378.1) = true then (laws_FnCoins.j0 k bt350.1 bt350.2.1 bt350.2.2 bt357.1 bt357.2 bt368.1 bt368.2 bt372.1 bt372.2 bt376.1 bt387.1 bt387.2.1 bt387.2.2.1 bt387.2.2.2 bt393.1 bt393.2 bt401.1 bt401.2 bt409.1 bt409.2 true) else (if (bt376.2 != bt378.2) = true then (laws_FnCoins.j0 k bt350.1 bt350.2.1 bt350.2.2 bt357.1 bt357.2 bt368.1 bt368.2 bt372.1 bt372.2 bt376.1 bt387.1 bt387.2.1 bt387.2.2.1 bt387.2.2.2 bt393.1 bt393.2 bt401.1 bt401.2 bt409.1 bt409.2 true) else (if (bt380.1 != bt382.1) = true then (laws_FnCoins.j0 k bt350.1 bt350.2.1 bt350.2.2 bt357.1 bt357.2 bt368.1 bt368.2 bt372.1 bt372.2 bt376.1 bt387.1 bt387.2.1 bt387.2.2.1 bt387.2.2.2 bt393.1 bt393.2 bt401.1 bt401.2 bt409.1 bt409.2 true) else (if (bt380.2 != bt382.2) = true then (laws_FnCoins.j0 k bt350.1 bt350.2.1 bt350.2.2 bt357.1 bt357.2 bt368.1 bt368.2 bt372.1 bt372.2 bt376.1 bt387.1 bt387.2.1 bt387.2.2.1 bt387.2.2.2 bt393.1 bt393.2 bt401.1 bt401.2 bt409.1 bt409.2 true) else (if (bt393.2 != bt397.2) = true then (laws_FnCoins.j0 k bt350.1 bt350.2.1 bt350.2.2 bt357.1 bt357.2 bt368.1 bt368.2 bt372.1 bt372.2 bt376.1 bt387.1 bt387.2.1 bt387.2.2.1 bt387.2.2.2 bt393.1 bt393.2 bt401.1 bt401.2 bt409.1 bt409.2 true) else ((laws_vInts.f k bt393.1 bt397.1).bind fun t414 => (if t414 = true then (if (bt401.2 != bt405.2) = true then (laws_FnCoins.j0 k bt350.1 bt350.2.1 bt350.2.2 bt357.1 bt357.2 bt368.1 bt368.2 bt372.1 bt372.2 bt376.1 bt387.1 bt387.2.1 bt387.2.2.1 bt387.2.2.2 bt393.1 bt393.2 bt401.1 bt401.2 bt409.1 bt409.2 true) else ((laws_vTable.f k bt401.1 bt405.1).bind fun t415 => (if t415 = true then (if bt409.1 = bt411.1 then (if (bt409.2 != bt411.2) = true then (laws_FnCoins.j0 k bt350.1 bt350.2.1 bt350.2.2 bt357.1 bt357.2 bt368.1 bt368.2 bt372.1 bt372.2 bt376.1 bt387.1 bt387.2.1 bt387.2.2.1 bt387.2.2.2 bt393.1 bt393.2 bt401.1 bt401.2 bt409.1 bt409.2 true) else (if bt380.2 = true then (if (bt372.2 != bt380.1) = true then (laws_FnCoins.j0 k bt350.1 bt350.2.1 bt350.2.2 bt357.1 bt357.2 bt368.1 bt368.2 bt372.1 bt372.2 bt376.1 bt387.1 bt387.2.1 bt387.2.2.1 bt387.2.2.2 bt393.1 bt393.2 bt401.1 bt401.2 bt409.1 bt409.2 true) else (laws_FnCoins.j0 k bt350.1 bt350.2.1 bt350.2.2 bt357.1 bt357.2 bt368.1 bt368.2 bt372.1 bt372.2 bt376.1 bt387.1 bt387.2.1 bt387.2.2.1 bt387.2.2.2 bt393.1 bt393.2 bt401.1 bt401.2 bt409.1 bt409.2 (bt372.2 != bt376.2))) else (if (bt372.2 != false) = true then (laws_FnCoins.j0 k bt350.1 bt350.2.1 bt350.2.2 bt357.1 bt357.2 bt368.1 bt368.2 bt372.1 bt372.2 bt376.1 bt387.1 bt387.2.1 bt387.2.2.1 bt387.2.2.2 bt393.1 bt393.2 bt401.1 bt401.2 bt409.1 bt409.2 true) else (laws_FnCoins.j0 k bt350.1 bt350.2.1 bt350.2.2 bt357.1 bt357.2 bt368.1 bt368.2 bt372.1 bt372.2 bt376.1 bt387.1 bt387.2.1 bt387.2.2.1 bt387.2.2.2 bt393.1 bt393.2 bt401.1 bt401.2 bt409.1 bt409.2 (bt372.2 != bt376.2))))) else (laws_FnCoins.j0 k bt350.1 bt350.2.1 bt350.2.2 bt357.1 bt357.2 bt368.1 bt368.2 bt372.1 bt372.2 bt376.1 bt387.1 bt387.2.1 bt387.2.2.1 bt387.2.2.2 bt393.1 bt393.2 bt401.1 bt401.2 bt409.1 bt409.2 true)) else (laws_FnCoins.j0 k bt350.1 bt350.2.1 bt350.2.2 bt357.1 bt357.2 bt368.1 bt368.2 bt372.1 bt372.2 bt376.1 bt387.1 bt387.2.1 bt387.2.2.1 bt387.2.2.2 bt393.1 bt393.2 bt401.1 bt401.2 bt409.1 bt409.2 true)))) else (laws_FnCoins.j0 k bt350.1 bt350.2.1 bt350.2.2 bt357.1 bt357.2 bt368.1 bt368.2 bt372.1 bt372.2 bt376.1 bt387.1 bt387.2.1 bt387.2.2.1 bt387.2.2.2 bt393.1 bt393.2 bt401.1 bt401.2 bt409.1 bt409.2 true)))))))))) else (laws_FnCoins.j0 k bt350.1 bt350.2.1 bt350.2.2 bt357.1 bt357.2 bt368.1 bt368.2 bt372.1 bt372.2 bt376.1 bt387.1 bt387.2.1 bt387.2.2.1 bt387.2.2.2 bt393.1 bt393.2 bt401.1 bt401.2 bt409.1 bt409.2 true))))))))))))))))))))))))) = some r := h
 clear h
 replace H := Option.bind_eq_some_iff.mp H
 obtain ⟨t349, A20, H⟩ := H
 try dsimp only at H
 have A2 := Aside0.mk A20
 clear A20
 by_cases c3 : t349 = true
 ·subst c3
  rw [if_pos rfl] at H
  as_aux_lemma =>
   obtain rfl := Option.some.inj H
   go_enter Try.func3, Try.ntmps3
   go_wp2_with (first | ((with_reducible refine gate_callee (f := 6) rfl ?_); refine goesL_ (some 57) rfl rfl Try.func6 (by kernel_rfl) rfl #[.slice A0 l0.length c0] rfl (by (try simp only [List.map_toArray, List.map_cons, List.map_nil]); first | done | rfl | (simp only [List.length_drop, List.length_take]; rfl)) ?_; (with_reducible refine (laws_vBig.calls _ _ l0 true _ (Sq.C (HR0.out)) HC0.out A2.out).mono ?_); rintro e w' ⟨rfl, ⟨nd, rfl⟩⟩; refine ⟨_, rfl, ?_⟩))
   go_ret
   exact ⟨by first | rfl | (simp [errW_none, errW_some] <;> rfl) | (simp [*, errW_none, errW_some] <;> rfl), Sq.B HB⟩
 replace c3 := Bool.eq_false_iff.mpr c3
 subst c3
 rw [if_neg (show ¬ (false = true) by decide)] at H
 replace H := Option.bind_eq_some_iff.mp H
 obtain ⟨⟨t350, t351, t352⟩, A40, H⟩ := H
 try dsimp only at H
 have A4 := Aside0.mk A40
 clear A40
 replace H := Option.bind_eq_some_iff.mp H
 obtain ⟨⟨t357, t358⟩, A50, H⟩ := H
 try dsimp only at H
 have A5 := Aside0.mk A50
 clear A50
 replace H := Option.bind_eq_some_iff.mp H
 obtain ⟨⟨t361, t362⟩, A60, H⟩ := H
 try dsimp only at H
 have A6 := Aside0.mk A60
 clear A60
 replace H := Option.bind_eq_some_iff.mp H
 obtain ⟨t365, A70, H⟩ := H
 try dsimp only at H
 have A7 := Aside0.mk A70
 clear A70
 replace H := Option.bind_eq_some_iff.mp H
 obtain ⟨⟨t368, t369⟩, A80, H⟩ := H
 try dsimp only at H
 have A8 := Aside0.mk A80
 clear A80
 replace H := Option.bind_eq_some_iff.mp H
 obtain ⟨⟨t372, t373⟩, A90, H⟩ := H
 try dsimp only at H
 have A9 := Aside0.mk A90
 clear A90
 replace H := Option.bind_eq_some_iff.mp H
 obtain ⟨⟨t374, t375⟩, A100, H⟩ := H
 try dsimp only at H
 have A10 := Aside0.mk A100
 clear A100
 replace H := Option.bind_eq_some_iff.mp H
 obtain ⟨⟨t376, t377⟩, A110, H⟩ := H
 try dsimp only at H
 have A11 := Aside0.mk A110
 clear A110
 replace H := Option.bind_eq_some_iff.mp H
 obtain ⟨⟨t378, t379⟩, A120, H⟩ := H
 try dsimp only at H
 have A12 := Aside0.mk A120
 clear A120
 replace H := Option.bind_eq_some_iff.mp H
 obtain ⟨⟨t380, t381⟩, A130, H⟩ := H
 try dsimp only at H
 have A13 := Aside0.mk A130
 clear A130
 replace H := Option.bind_eq_some_iff.mp H
 obtain ⟨⟨t382, t383⟩, A140, H⟩ := H
 try dsimp only at H
 have A14 := Aside0.mk A140
 clear A140
 replace H := Option.bind_eq_some_iff.mp H
 obtain ⟨t384, A150, H⟩ := H
 try dsimp only at H
 have A15 := Aside0.mk A150
 clear A150
 replace H := Option.bind_eq_some_iff.mp H
 obtain ⟨⟨t387, t388, t389, t390⟩, A160, H⟩ := H
 try dsimp only at H
 have A16 := Aside0.mk A160
 clear A160
 replace H := Option.bind_eq_some_iff.mp H
 obtain ⟨⟨t393, t394⟩, A170, H⟩ := H
 try dsimp only at H
 have A17 := Aside0.mk A170
 clear A170
 replace H := Option.bind_eq_some_iff.mp H
 obtain ⟨⟨t397, t398⟩, A180, H⟩ := H
 try dsimp only at H
 have A18 := Aside0.mk A180
 clear A180
 replace H := Option.bind_eq_some_iff.mp H
 obtain ⟨⟨t401, t402⟩, A190, H⟩ := H
 try dsimp only at H
 have A19 := Aside0.mk A190
 clear A190
 replace H := Option.bind_eq_some_iff.mp H
 obtain ⟨⟨t405, t406⟩, A200, H⟩ := H
 try dsimp only at H
 have A20 := Aside0.mk A200
 clear A200
 replace H := Option.bind_eq_some_iff.mp H
 obtain ⟨⟨t409, t410⟩, A210, H⟩ := H
 try dsimp only at H
 have A21 := Aside0.mk A210
 clear A210
 replace H := Option.bind_eq_some_iff.mp H
 obtain ⟨⟨t411, t412⟩, A220, H⟩ := H
 try dsimp only at H
 have A22 := Aside0.mk A220
 clear A220
 have HC23 := Aside0.mk H
 clear H
 go_enter Try.func3, Try.ntmps3
 as_aux_lemma =>
  go_upto_region 20 with (first | ((with_reducible refine gate_callee (f := 6) rfl ?_); refine goesL_ (some 57) rfl rfl Try.func6 (by kernel_rfl) rfl #[.slice A0 l0.length c0] rfl (by (try simp only [List.map_toArray, List.map_cons, List.map_nil]); first | done | rfl | (simp only [List.length_drop, List.length_take]; rfl)) ?_; (with_reducible refine (laws_vBig.calls _ _ l0 false _ (Sq.C (HR0.out)) HC0.out A2.out).mono ?_); rintro e w' ⟨rfl, ⟨nd, rfl⟩⟩; refine ⟨_, rfl, ?_⟩) | ((with_reducible refine gate_callee (f := 7) rfl ?_); refine goesL_ (some 60) rfl rfl Try.func7 (by kernel_rfl) rfl #[.slice A0 l0.length c0] rfl (by (try simp only [List.map_toArray, List.map_cons, List.map_nil]); first | done | rfl | (simp only [List.length_drop, List.length_take]; rfl)) ?_; (with_reducible refine (spec_DrawCoinsWith.calls k _ _ l0 t350 t351 t352 _ (Sq.C (HR0.out)) HC0.out A4.out).mono ?_); rintro e w24 ⟨v353, v355, rfl, ho0, ho1, hb⟩; refine ⟨_, rfl, ?_⟩; have HO354 := Aside0.mk (Kd.S_lower ho0 (below_size (Sq.B HB))); have HO356 := Sq.L ho1 HB; replace HB := Sq.S HB hb; clear hb ho0 ho1; obtain ⟨Ao25, co25, rfl⟩ := Kd.S_slice HO354.out; obtain ⟨Ao26, co26, rfl⟩ := Kd.R_slice HO356.out) | ((with_reducible refine gate_callee (f := 8) rfl ?_); refine goesL_ (some 68) rfl rfl Try.func8 (by kernel_rfl) rfl #[.int .i64 t350, .slice Ao25 t351.length co25, .slice Ao26 t352.length co26] rfl (by (try simp only [List.map_toArray, List.map_cons, List.map_nil]); first | done | rfl | (simp only [List.length_drop, List.length_take]; rfl)) ?_; (with_reducible refine (impl_CoinsWith.calls k t350 _ _ t351 _ _ t352 t357 t358 _ (Sq.C ((Kd.S_reads' HO354.out).2.2)) ((Kd.S_reads' HO354.out).2.1) (Sq.r HO356) (Sq.n HO356) A5.out).mono ?_); rintro e w27 ⟨v359, rfl, ho0, hb⟩; refine ⟨_, rfl, ?_⟩; have HO360 := Sq.L ho0 HB; replace HO354 := Aside0.mk (Kd.S_below (by (with_reducible repeat (first | apply Kd.S_alloc | apply Kd.S_drewN | apply Kd.S_drew)); exact HO354.out) hb); replace HO356 := Sq.T HO356 hb; replace HB := Sq.S HB hb; clear hb ho0) | ((with_reducible refine gate_callee (f := 9) rfl ?_); refine goesL_ (some 75) rfl rfl Try.func9 (by kernel_rfl) rfl #[.int .i64 t350, .slice Ao25 t351.length co25, .slice Ao26 t352.length co26] rfl (by (try simp only [List.map_toArray, List.map_cons, List.map_nil]); first | done | rfl | (simp only [List.length_drop, List.length_take]; rfl)) ?_; (with_reducible refine (spec_CoinsWith.calls k t350 _ _ t351 _ _ t352 t361 t362 _ (Sq.C ((Kd.S_reads' HO354.out).2.2)) ((Kd.S_reads' HO354.out).2.1) (Sq.r HO356) (Sq.n HO356) A6.out).mono ?_); rintro e w28 ⟨v363, rfl, ho0, hb⟩; refine ⟨_, rfl, ?_⟩; have HO364 := Sq.L (Sq.N ho0 HO360) HB; replace HO354 := Aside0.mk (Kd.S_below (by (with_reducible repeat (first | apply Kd.S_alloc | apply Kd.S_drewN | apply Kd.S_drew)); exact HO354.out) hb); replace HO356 := Sq.T HO356 hb; replace HO360 := Sq.E HO360 ho0 hb; replace HB := Sq.S HB hb; clear hb ho0) | ((with_reducible refine gate_callee (f := 11) rfl ?_); refine goesL_ (some 80) rfl rfl Try.func11 (by kernel_rfl) rfl #[.slice A0 l0.length c0, .int .i64 1] rfl (by (try simp only [List.map_toArray, List.map_cons, List.map_nil]); first | done | rfl | (simp only [List.length_drop, List.length_take]; rfl)) ?_; (with_reducible refine (laws_vCut.calls _ _ l0 1 t365 _ (Sq.C ((Kd.C_below HR0.out HB.out))) HC0.out A7.out).mono ?_); rintro e w29 ⟨v366, rfl, ho0, hb⟩; refine ⟨_, rfl, ?_⟩; have HO367 := Sq.L ho0 HB; replace HO354 := Aside0.mk (Kd.S_below (by (with_reducible repeat (first | apply Kd.S_alloc | apply Kd.S_drewN | apply Kd.S_drew)); exact HO354.out) hb); replace HO356 := Sq.T HO356 hb; replace HO360 := Sq.T HO360 hb; replace HO364 := Sq.T HO364 hb; replace HB := Sq.S HB hb; clear hb ho0; obtain ⟨Ao30, co30, rfl⟩ := Kd.R_slice HO367.out) | ((with_reducible refine gate_callee (f := 10) rfl ?_); refine goesL_ (some 81) rfl rfl Try.func10 (by kernel_rfl) rfl #[.slice Ao30 t365.length co30] rfl (by (try simp only [List.map_toArray, List.map_cons, List.map_nil]); first | done | rfl | (simp only [List.length_drop, List.length_take]; rfl)) ?_; (with_reducible refine (spec_DrawTellsHeavy.calls k _ _ t365 t368 t369 _ (Sq.r HO367) (Sq.n HO367) A8.out).mono ?_); rintro e w31 ⟨v370, rfl, ho0, hb⟩; refine ⟨_, rfl, ?_⟩; have HO371 := Aside0.mk (Kd.S_lower (Kd.S_new' (Kd.S_new' ho0 (Kd.S_lt (by (with_reducible repeat (first | apply Kd.S_alloc | apply Kd.S_drewN | apply Kd.S_drew)); exact HO354.out))) (Sq.lt HO356)) (below_size (Sq.B HB))); replace HO354 := Aside0.mk (Kd.S_elder' (by (with_reducible repeat (first | apply Kd.S_alloc | apply Kd.S_drewN | apply Kd.S_drew)); exact HO354.out) (Kd.S_base ho0) hb); replace HO356 := Sq.T HO356 hb; replace HO360 := Sq.T HO360 hb; replace HO364 := Sq.T HO364 hb; replace HO367 := Sq.T HO367 hb; replace HB := Sq.S HB hb; clear hb ho0; obtain ⟨Ao32, co32, rfl⟩ := Kd.S_slice HO371.out) | ((with_reducible refine gate_callee (f := 12) rfl ?_); refine goesL_ (some 87) rfl rfl Try.func12 (by kernel_rfl) rfl #[.int .i64 t368, .slice Ao32 t369.length co32] rfl (by (try simp only [List.map_toArray, List.map_cons, List.map_nil]); first | done | rfl | (simp only [List.length_drop, List.length_take]; rfl)) ?_; (with_reducible refine (impl_TellsHeavy.calls k t368 _ _ t369 t372 t373 _ (Sq.C ((Kd.S_reads' HO371.out).2.2)) ((Kd.S_reads' HO371.out).2.1) A9.out).mono ?_); rintro e w33 ⟨rfl, hb⟩; refine ⟨_, rfl, ?_⟩; replace HO354 := Aside0.mk (Kd.S_below (by (with_reducible repeat (first | apply Kd.S_alloc | apply Kd.S_drewN | apply Kd.S_drew)); exact HO354.out) hb); replace HO356 := Sq.T HO356 hb; replace HO360 := Sq.T HO360 hb; replace HO364 := Sq.T HO364 hb; replace HO367 := Sq.T HO367 hb; replace HO371 := Aside0.mk (Kd.S_below (by (with_reducible repeat (first | apply Kd.S_alloc | apply Kd.S_drewN | apply Kd.S_drew)); exact HO371.out) hb); replace HB := Sq.S HB hb; clear hb) | ((with_reducible refine gate_callee (f := 13) rfl ?_); refine goesL_ (some 93) rfl rfl Try.func13 (by kernel_rfl) rfl #[.int .i64 t368, .slice Ao32 t369.length co32] rfl (by (try simp only [List.map_toArray, List.map_cons, List.map_nil]); first | done | rfl | (simp only [List.length_drop, List.length_take]; rfl)) ?_; (with_reducible refine (spec_TellsHeavy.calls k t368 _ _ t369 t374 t375 _ (Sq.C ((Kd.S_reads' HO371.out).2.2)) ((Kd.S_reads' HO371.out).2.1) A10.out).mono ?_); rintro e w34 ⟨rfl, hb⟩; refine ⟨_, rfl, ?_⟩; replace HO354 := Aside0.mk (Kd.S_below (by (with_reducible repeat (first | apply Kd.S_alloc | apply Kd.S_drewN | apply Kd.S_drew)); exact HO354.out) hb); replace HO356 := Sq.T HO356 hb; replace HO360 := Sq.T HO360 hb; replace HO364 := Sq.T HO364 hb; replace HO367 := Sq.T HO367 hb; replace HO371 := Aside0.mk (Kd.S_below (by (with_reducible repeat (first | apply Kd.S_alloc | apply Kd.S_drewN | apply Kd.S_drew)); exact HO371.out) hb); replace HB := Sq.S HB hb; clear hb) | ((with_reducible refine gate_callee (f := 14) rfl ?_); refine goesL_ (some 99) rfl rfl Try.func14 (by kernel_rfl) rfl #[.int .i64 t368, .slice Ao32 t369.length co32] rfl (by (try simp only [List.map_toArray, List.map_cons, List.map_nil]); first | done | rfl | (simp only [List.length_drop, List.length_take]; rfl)) ?_; (with_reducible refine (impl_TellsBoth.calls k t368 _ _ t369 t376 t377 _ (Sq.C ((Kd.S_reads' HO371.out).2.2)) ((Kd.S_reads' HO371.out).2.1) A11.out).mono ?_); rintro e w35 ⟨rfl, hb⟩; refine ⟨_, rfl, ?_⟩; replace HO354 := Aside0.mk (Kd.S_below (by (with_reducible repeat (first | apply Kd.S_alloc | apply Kd.S_drewN | apply Kd.S_drew)); exact HO354.out) hb); replace HO356 := Sq.T HO356 hb; replace HO360 := Sq.T HO360 hb; replace HO364 := Sq.T HO364 hb; replace HO367 := Sq.T HO367 hb; replace HO371 := Aside0.mk (Kd.S_below (by (with_reducible repeat (first | apply Kd.S_alloc | apply Kd.S_drewN | apply Kd.S_drew)); exact HO371.out) hb); replace HB := Sq.S HB hb; clear hb) | ((with_reducible refine gate_callee (f := 15) rfl ?_); refine goesL_ (some 105) rfl rfl Try.func15 (by kernel_rfl) rfl #[.int .i64 t368, .slice Ao32 t369.length co32] rfl (by (try simp only [List.map_toArray, List.map_cons, List.map_nil]); first | done | rfl | (simp only [List.length_drop, List.length_take]; rfl)) ?_; (with_reducible refine (spec_TellsBoth.calls k t368 _ _ t369 t378 t379 _ (Sq.C ((Kd.S_reads' HO371.out).2.2)) ((Kd.S_reads' HO371.out).2.1) A12.out).mono ?_); rintro e w36 ⟨rfl, hb⟩; refine ⟨_, rfl, ?_⟩; replace HO354 := Aside0.mk (Kd.S_below (by (with_reducible repeat (first | apply Kd.S_alloc | apply Kd.S_drewN | apply Kd.S_drew)); exact HO354.out) hb); replace HO356 := Sq.T HO356 hb; replace HO360 := Sq.T HO360 hb; replace HO364 := Sq.T HO364 hb; replace HO367 := Sq.T HO367 hb; replace HO371 := Aside0.mk (Kd.S_below (by (with_reducible repeat (first | apply Kd.S_alloc | apply Kd.S_drewN | apply Kd.S_drew)); exact HO371.out) hb); replace HB := Sq.S HB hb; clear hb) | ((with_reducible refine gate_callee (f := 16) rfl ?_); refine goesL_ (some 111) rfl rfl Try.func16 (by kernel_rfl) rfl #[.int .i64 t368, .slice Ao32 t369.length co32] rfl (by (try simp only [List.map_toArray, List.map_cons, List.map_nil]); first | done | rfl | (simp only [List.length_drop, List.length_take]; rfl)) ?_; (with_reducible refine (impl_IsCoinPlan.calls k t368 _ _ t369 t380 t381 _ (Sq.C ((Kd.S_reads' HO371.out).2.2)) ((Kd.S_reads' HO371.out).2.1) A13.out).mono ?_); rintro e w' ⟨rfl, ⟨nd, rfl⟩⟩; refine ⟨_, rfl, ?_⟩) | ((with_reducible refine gate_callee (f := 17) rfl ?_); refine goesL_ (some 117) rfl rfl Try.func17 (by kernel_rfl) rfl #[.int .i64 t368, .slice Ao32 t369.length co32] rfl (by (try simp only [List.map_toArray, List.map_cons, List.map_nil]); first | done | rfl | (simp only [List.length_drop, List.length_take]; rfl)) ?_; (with_reducible refine (spec_IsCoinPlan.calls k t368 _ _ t369 t382 t383 _ (Sq.C ((Kd.S_reads' HO371.out).2.2)) ((Kd.S_reads' HO371.out).2.1) A14.out).mono ?_); rintro e w' ⟨rfl, ⟨nd, rfl⟩⟩; refine ⟨_, rfl, ?_⟩) | ((with_reducible refine gate_callee (f := 11) rfl ?_); refine goesL_ (some 122) rfl rfl Try.func11 (by kernel_rfl) rfl #[.slice A0 l0.length c0, .int .i64 2] rfl (by (try simp only [List.map_toArray, List.map_cons, List.map_nil]); first | done | rfl | (simp only [List.length_drop, List.length_take]; rfl)) ?_; (with_reducible refine (laws_vCut.calls _ _ l0 2 t384 _ ?side1 ?side2 A15.out).mono ?_); (case side1 => repeat (first | exact (Kd.C_below HR0.out (Sq.B HB)) | (with_reducible refine Kd.C_alloc ?_ _) | (with_reducible refine Kd.C_drewN ?_ _) | (with_reducible refine Kd.C_drew ?_))); (case side2 => exact HC0.out); rintro e w37 ⟨v385, rfl, ho0, hb⟩; refine ⟨_, rfl, ?_⟩; have HO386 := Sq.L (Sq.N ho0 HO367) HB; replace HO354 := Aside0.mk (Kd.S_below (by (with_reducible repeat (first | apply Kd.S_alloc | apply Kd.S_drewN | apply Kd.S_drew)); exact HO354.out) hb); replace HO356 := Sq.T HO356 hb; replace HO360 := Sq.T HO360 hb; replace HO364 := Sq.T HO364 hb; replace HO367 := Sq.E HO367 ho0 hb; replace HO371 := Aside0.mk (Kd.S_below (by (with_reducible repeat (first | apply Kd.S_alloc | apply Kd.S_drewN | apply Kd.S_drew)); exact HO371.out) hb); replace HB := Sq.S HB hb; clear hb ho0; obtain ⟨Ao38, co38, rfl⟩ := Kd.R_slice HO386.out) | ((with_reducible refine gate_callee (f := 18) rfl ?_); refine goesL_ (some 123) rfl rfl Try.func18 (by kernel_rfl) rfl #[.slice Ao38 t384.length co38] rfl (by (try simp only [List.map_toArray, List.map_cons, List.map_nil]); first | done | rfl | (simp only [List.length_drop, List.length_take]; rfl)) ?_; (with_reducible refine (spec_DrawCoinOutcome.calls k _ _ t384 t387 t388 t389 t390 _ (Sq.r HO386) (Sq.n HO386) A16.out).mono ?_); rintro e w39 ⟨v391, rfl, ho0, hb⟩; refine ⟨_, rfl, ?_⟩; have HO392 := Aside0.mk (Kd.S_lower (Kd.S_new' (Kd.S_new' (Kd.S_new' ho0 (Kd.S_lt (by (with_reducible repeat (first | apply Kd.S_alloc | apply Kd.S_drewN | apply Kd.S_drew)); exact HO354.out))) (Sq.lt HO356)) (Kd.S_lt (by (with_reducible repeat (first | apply Kd.S_alloc | apply Kd.S_drewN | apply Kd.S_drew)); exact HO371.out))) (below_size (Sq.B HB))); replace HO354 := Aside0.mk (Kd.S_elder' (by (with_reducible repeat (first | apply Kd.S_alloc | apply Kd.S_drewN | apply Kd.S_drew)); exact HO354.out) (Kd.S_base ho0) hb); replace HO356 := Sq.T HO356 hb; replace HO360 := Sq.T HO360 hb; replace HO364 := Sq.T HO364 hb; replace HO367 := Sq.T HO367 hb; replace HO371 := Aside0.mk (Kd.S_elder' (by (with_reducible repeat (first | apply Kd.S_alloc | apply Kd.S_drewN | apply Kd.S_drew)); exact HO371.out) (Kd.S_base ho0) hb); replace HO386 := Sq.T HO386 hb; replace HB := Sq.S HB hb; clear hb ho0; obtain ⟨Ao40, co40, rfl⟩ := Kd.S_slice HO392.out) | ((with_reducible refine gate_callee (f := 19) rfl ?_); refine goesL_ (some 133) rfl rfl Try.func19 (by kernel_rfl) rfl #[.int .i64 t387, .slice Ao40 t388.length co40, .int .i64 t389, .bool t390] rfl (by (try simp only [List.map_toArray, List.map_cons, List.map_nil]); first | done | rfl | (simp only [List.length_drop, List.length_take]; rfl)) ?_; (with_reducible refine (impl_CoinOutcome.calls k t387 _ _ t388 t389 t390 t393 t394 _ (Sq.C ((Kd.S_reads' HO392.out).2.2)) ((Kd.S_reads' HO392.out).2.1) A17.out).mono ?_); rintro e w41 ⟨v395, rfl, ho0, hb⟩; refine ⟨_, rfl, ?_⟩; have HO396 := Sq.L (Sq.N ho0 HO356) HB; replace HO354 := Aside0.mk (Kd.S_elder' (by (with_reducible repeat (first | apply Kd.S_alloc | apply Kd.S_drewN | apply Kd.S_drew)); exact HO354.out) (Kd.R_base ho0) hb); replace HO356 := Sq.E HO356 ho0 hb; replace HO360 := Sq.T HO360 hb; replace HO364 := Sq.T HO364 hb; replace HO367 := Sq.T HO367 hb; replace HO371 := Aside0.mk (Kd.S_elder' (by (with_reducible repeat (first | apply Kd.S_alloc | apply Kd.S_drewN | apply Kd.S_drew)); exact HO371.out) (Kd.R_base ho0) hb); replace HO386 := Sq.T HO386 hb; replace HO392 := Aside0.mk (Kd.S_elder' (by (with_reducible repeat (first | apply Kd.S_alloc | apply Kd.S_drewN | apply Kd.S_drew)); exact HO392.out) (Kd.R_base ho0) hb); replace HB := Sq.S HB hb; clear hb ho0) | ((with_reducible refine gate_callee (f := 20) rfl ?_); refine goesL_ (some 141) rfl rfl Try.func20 (by kernel_rfl) rfl #[.int .i64 t387, .slice Ao40 t388.length co40, .int .i64 t389, .bool t390] rfl (by (try simp only [List.map_toArray, List.map_cons, List.map_nil]); first | done | rfl | (simp only [List.length_drop, List.length_take]; rfl)) ?_; (with_reducible refine (spec_CoinOutcome.calls k t387 _ _ t388 t389 t390 t397 t398 _ (Sq.C ((Kd.S_reads' HO392.out).2.2)) ((Kd.S_reads' HO392.out).2.1) A18.out).mono ?_); rintro e w42 ⟨v399, rfl, ho0, hb⟩; refine ⟨_, rfl, ?_⟩; have HO400 := Sq.L (Sq.N (Sq.N ho0 HO356) HO396) HB; replace HO354 := Aside0.mk (Kd.S_elder' (by (with_reducible repeat (first | apply Kd.S_alloc | apply Kd.S_drewN | apply Kd.S_drew)); exact HO354.out) (Kd.R_base ho0) hb); replace HO356 := Sq.E HO356 ho0 hb; replace HO360 := Sq.T HO360 hb; replace HO364 := Sq.T HO364 hb; replace HO367 := Sq.T HO367 hb; replace HO371 := Aside0.mk (Kd.S_elder' (by (with_reducible repeat (first | apply Kd.S_alloc | apply Kd.S_drewN | apply Kd.S_drew)); exact HO371.out) (Kd.R_base ho0) hb); replace HO386 := Sq.T HO386 hb; replace HO392 := Aside0.mk (Kd.S_elder' (by (with_reducible repeat (first | apply Kd.S_alloc | apply Kd.S_drewN | apply Kd.S_drew)); exact HO392.out) (Kd.R_base ho0) hb); replace HO396 := Sq.E HO396 ho0 hb; replace HB := Sq.S HB hb; clear hb ho0) | ((with_reducible refine gate_callee (f := 21) rfl ?_); refine goesL_ (some 146) rfl rfl Try.func21 (by kernel_rfl) rfl #[.int .i64 t350] rfl (by (try simp only [List.map_toArray, List.map_cons, List.map_nil]); first | done | rfl | (simp only [List.length_drop, List.length_take]; rfl)) ?_; (with_reducible refine (impl_HeavyPlan.calls k t350 t401 t402 _ A19.out).mono ?_); rintro e w43 ⟨v403, rfl, ho0, hb⟩; refine ⟨_, rfl, ?_⟩; have HO404 := Aside0.mk (Kd.S_lower (Kd.S_new' (Kd.S_new' (Kd.S_new' (Kd.S_new' (Kd.S_new' (Kd.S_new' ho0 (Kd.S_lt (by (with_reducible repeat (first | apply Kd.S_alloc | apply Kd.S_drewN | apply Kd.S_drew)); exact HO354.out))) (Sq.lt HO356)) (Kd.S_lt (by (with_reducible repeat (first | apply Kd.S_alloc | apply Kd.S_drewN | apply Kd.S_drew)); exact HO371.out))) (Kd.S_lt (by (with_reducible repeat (first | apply Kd.S_alloc | apply Kd.S_drewN | apply Kd.S_drew)); exact HO392.out))) (Sq.lt HO396)) (Sq.lt HO400)) (below_size (Sq.B HB))); replace HO354 := Aside0.mk (Kd.S_elder' (by (with_reducible repeat (first | apply Kd.S_alloc | apply Kd.S_drewN | apply Kd.S_drew)); exact HO354.out) (Kd.S_base ho0) hb); replace HO356 := Sq.T HO356 hb; replace HO360 := Sq.T HO360 hb; replace HO364 := Sq.T HO364 hb; replace HO367 := Sq.T HO367 hb; replace HO371 := Aside0.mk (Kd.S_elder' (by (with_reducible repeat (first | apply Kd.S_alloc | apply Kd.S_drewN | apply Kd.S_drew)); exact HO371.out) (Kd.S_base ho0) hb); replace HO386 := Sq.T HO386 hb; replace HO392 := Aside0.mk (Kd.S_elder' (by (with_reducible repeat (first | apply Kd.S_alloc | apply Kd.S_drewN | apply Kd.S_drew)); exact HO392.out) (Kd.S_base ho0) hb); replace HO396 := Sq.T HO396 hb; replace HO400 := Sq.T HO400 hb; replace HB := Sq.S HB hb; clear hb ho0) | ((with_reducible refine gate_callee (f := 22) rfl ?_); refine goesL_ (some 151) rfl rfl Try.func22 (by kernel_rfl) rfl #[.int .i64 t350] rfl (by (try simp only [List.map_toArray, List.map_cons, List.map_nil]); first | done | rfl | (simp only [List.length_drop, List.length_take]; rfl)) ?_; (with_reducible refine (spec_HeavyPlan.calls k t350 t405 t406 _ A20.out).mono ?_); rintro e w44 ⟨v407, rfl, ho0, hb⟩; refine ⟨_, rfl, ?_⟩; have HO408 := Aside0.mk (Kd.S_lower (Kd.S_new' (Kd.S_new' (Kd.S_new' (Kd.S_new' (Kd.S_new' (Kd.S_new' (Kd.S_new' ho0 (Kd.S_lt (by (with_reducible repeat (first | apply Kd.S_alloc | apply Kd.S_drewN | apply Kd.S_drew)); exact HO354.out))) (Sq.lt HO356)) (Kd.S_lt (by (with_reducible repeat (first | apply Kd.S_alloc | apply Kd.S_drewN | apply Kd.S_drew)); exact HO371.out))) (Kd.S_lt (by (with_reducible repeat (first | apply Kd.S_alloc | apply Kd.S_drewN | apply Kd.S_drew)); exact HO392.out))) (Sq.lt HO396)) (Sq.lt HO400)) (Kd.S_lt (by (with_reducible repeat (first | apply Kd.S_alloc | apply Kd.S_drewN | apply Kd.S_drew)); exact HO404.out))) (below_size (Sq.B HB))); replace HO354 := Aside0.mk (Kd.S_elder' (by (with_reducible repeat (first | apply Kd.S_alloc | apply Kd.S_drewN | apply Kd.S_drew)); exact HO354.out) (Kd.S_base ho0) hb); replace HO356 := Sq.T HO356 hb; replace HO360 := Sq.T HO360 hb; replace HO364 := Sq.T HO364 hb; replace HO367 := Sq.T HO367 hb; replace HO371 := Aside0.mk (Kd.S_elder' (by (with_reducible repeat (first | apply Kd.S_alloc | apply Kd.S_drewN | apply Kd.S_drew)); exact HO371.out) (Kd.S_base ho0) hb); replace HO386 := Sq.T HO386 hb; replace HO392 := Aside0.mk (Kd.S_elder' (by (with_reducible repeat (first | apply Kd.S_alloc | apply Kd.S_drewN | apply Kd.S_drew)); exact HO392.out) (Kd.S_base ho0) hb); replace HO396 := Sq.T HO396 hb; replace HO400 := Sq.T HO400 hb; replace HO404 := Aside0.mk (Kd.S_elder' (by (with_reducible repeat (first | apply Kd.S_alloc | apply Kd.S_drewN | apply Kd.S_drew)); exact HO404.out) (Kd.S_base ho0) hb); replace HB := Sq.S HB hb; clear hb ho0) | ((with_reducible refine gate_callee (f := 23) rfl ?_); refine goesL_ (some 156) rfl rfl Try.func23 (by kernel_rfl) rfl #[.int .i64 t350] rfl (by (try simp only [List.map_toArray, List.map_cons, List.map_nil]); first | done | rfl | (simp only [List.length_drop, List.length_take]; rfl)) ?_; (with_reducible refine (impl_WeighingsNeeded.calls k t350 t409 t410 _ A21.out).mono ?_); rintro e w' ⟨rfl, ⟨nd, rfl⟩⟩; refine ⟨_, rfl, ?_⟩) | ((with_reducible refine gate_callee (f := 24) rfl ?_); refine goesL_ (some 161) rfl rfl Try.func24 (by kernel_rfl) rfl #[.int .i64 t350] rfl (by (try simp only [List.map_toArray, List.map_cons, List.map_nil]); first | done | rfl | (simp only [List.length_drop, List.length_take]; rfl)) ?_; (with_reducible refine (spec_WeighingsNeeded.calls k t350 t411 t412 _ A22.out).mono ?_); rintro e w' ⟨rfl, ⟨nd, rfl⟩⟩; refine ⟨_, rfl, ?_⟩))
  (try simp only [Act.put, List.setIfInBounds_toArray, List.set_cons_zero, List.set_cons_succ])
  go_cut [247] (fun v247 wc => ∃ (kq : Nat) (x247_22 : Bool), v247 = .bool x247_22 ∧ Aside0 (laws_FnCoins.j0 kq t350 t351 t352 t357 t358 t368 t369 t372 t373 t376 t387 t388 t389 t390 t393 t394 t401 t402 t409 t410 x247_22 = some r) ∧ Aside0 (kq ≤ k) ∧ Aside0 (Kd.S (Kd.slice 3 (Kd.int .i64)) 25 wc w.heap.size (fun k_ => some k_ ≠ ((.slice Ao26 t352.length co26) : Value).ownBlock ∧ some k_ ≠ ((.slice Ao32 t369.length co32) : Value).ownBlock ∧ some k_ ≠ ((.slice Ao40 t388.length co40) : Value).ownBlock ∧ some k_ ≠ (v395 : Value).ownBlock ∧ some k_ ≠ (v403 : Value).ownBlock) (.slice Ao25 t351.length co25) t351) ∧ Aside0 (Kd.R (Kd.int .i64) 3 wc w.heap.size (fun k_ => some k_ ≠ (v395 : Value).ownBlock) (.slice Ao26 t352.length co26) t352) ∧ Aside0 (Kd.R k47 47 wc w.heap.size (fun _ => True) v359 t357) ∧ Aside0 (Kd.S (Kd.slice 3 (Kd.int .i64)) 25 wc w.heap.size (fun k_ => some k_ ≠ ((.slice Ao25 t351.length co25) : Value).ownBlock ∧ some k_ ≠ ((.slice Ao26 t352.length co26) : Value).ownBlock ∧ some k_ ≠ ((.slice Ao40 t388.length co40) : Value).ownBlock ∧ some k_ ≠ (v395 : Value).ownBlock ∧ some k_ ≠ (v403 : Value).ownBlock) (.slice Ao32 t369.length co32) t369) ∧ Aside0 (Kd.S (Kd.slice 3 (Kd.int .i64)) 25 wc w.heap.size (fun k_ => some k_ ≠ ((.slice Ao25 t351.length co25) : Value).ownBlock ∧ some k_ ≠ ((.slice Ao26 t352.length co26) : Value).ownBlock ∧ some k_ ≠ ((.slice Ao32 t369.length co32) : Value).ownBlock ∧ some k_ ≠ (v395 : Value).ownBlock ∧ some k_ ≠ (v403 : Value).ownBlock) (.slice Ao40 t388.length co40) t388) ∧ Aside0 (Kd.R (Kd.int .i64) 3 wc w.heap.size (fun k_ => some k_ ≠ ((.slice Ao26 t352.length co26) : Value).ownBlock) v395 t393) ∧ Aside0 (Kd.S (Kd.slice 3 (Kd.int .i64)) 25 wc w.heap.size (fun k_ => some k_ ≠ ((.slice Ao25 t351.length co25) : Value).ownBlock ∧ some k_ ≠ ((.slice Ao26 t352.length co26) : Value).ownBlock ∧ some k_ ≠ ((.slice Ao32 t369.length co32) : Value).ownBlock ∧ some k_ ≠ ((.slice Ao40 t388.length co40) : Value).ownBlock ∧ some k_ ≠ (v395 : Value).ownBlock) v403 t401) ∧ Aside0 (Below w.heap.size w wc))
  case first =>
   have H := HC23.out
   clear HC23
   by_cases c45 : (t358 != t362) = true
   ·rw [if_pos c45] at H
    have c45b0 : (t358 != t362) = true := c45
    (try (have c45b1 : decide (t358 = t362) = false := by simpa using c45))
    (try (have c45b2 : (t358 == t362) = false := by simpa using c45))
    (try (have c45b3 : ¬ (t358 = t362) := by simpa using c45))
    clear c45
    (first | rw [c45b0] | (simp only [i64_w, i32_w]; rw [c45b0]) | skip)
    exact (laws_FnCoins.j0_bad _ H hr).elim
   rw [if_neg c45] at H
   have c45b0 : (t358 != t362) = false := by simpa using c45
   (try (have c45b1 : decide (t358 = t362) = true := by simpa using c45))
   (try (have c45b2 : (t358 == t362) = true := by simpa using c45))
   clear c45
   (first | rw [c45b0] | (simp only [i64_w, i32_w]; rw [c45b0]) | skip)
   replace H := Option.bind_eq_some_iff.mp H
   obtain ⟨t413, A460, H⟩ := H
   try dsimp only at H
   have A46 := Aside0.mk A460
   clear A460
   by_cases c47 : t413 = true
   rotate_left
   ·replace c47 := Bool.eq_false_iff.mpr c47
    subst c47
    rw [if_neg (show ¬ (false = true) by decide)] at H
    exact (laws_FnCoins.j0_bad _ H hr).elim
   subst c47
   rw [if_pos rfl] at H
   by_cases c48 : (t372 != t374) = true
   ·rw [if_pos c48] at H
    have c48b0 : (t372 != t374) = true := c48
    (try (have c48b1 : decide (t372 = t374) = false := by simpa using c48))
    (try (have c48b2 : (t372 == t374) = false := by simpa using c48))
    (try (have c48b3 : ¬ (t372 = t374) := by simpa using c48))
    clear c48
    exact (laws_FnCoins.j0_bad _ H hr).elim
   rw [if_neg c48] at H
   have c48b0 : (t372 != t374) = false := by simpa using c48
   (try (have c48b1 : decide (t372 = t374) = true := by simpa using c48))
   (try (have c48b2 : (t372 == t374) = true := by simpa using c48))
   clear c48
   by_cases c49 : (t373 != t375) = true
   ·rw [if_pos c49] at H
    have c49b0 : (t373 != t375) = true := c49
    (try (have c49b1 : decide (t373 = t375) = false := by simpa using c49))
    (try (have c49b2 : (t373 == t375) = false := by simpa using c49))
    (try (have c49b3 : ¬ (t373 = t375) := by simpa using c49))
    clear c49
    exact (laws_FnCoins.j0_bad _ H hr).elim
   rw [if_neg c49] at H
   have c49b0 : (t373 != t375) = false := by simpa using c49
   (try (have c49b1 : decide (t373 = t375) = true := by simpa using c49))
   (try (have c49b2 : (t373 == t375) = true := by simpa using c49))
   clear c49
   by_cases c50 : (t376 != t378) = true
   ·rw [if_pos c50] at H
    have c50b0 : (t376 != t378) = true := c50
    (try (have c50b1 : decide (t376 = t378) = false := by simpa using c50))
    (try (have c50b2 : (t376 == t378) = false := by simpa using c50))
    (try (have c50b3 : ¬ (t376 = t378) := by simpa using c50))
    clear c50
    exact (laws_FnCoins.j0_bad _ H hr).elim
   rw [if_neg c50] at H
   have c50b0 : (t376 != t378) = false := by simpa using c50
   (try (have c50b1 : decide (t376 = t378) = true := by simpa using c50))
   (try (have c50b2 : (t376 == t378) = true := by simpa using c50))
   clear c50
   by_cases c51 : (t377 != t379) = true
   ·rw [if_pos c51] at H
    have c51b0 : (t377 != t379) = true := c51
    (try (have c51b1 : decide (t377 = t379) = false := by simpa using c51))
    (try (have c51b2 : (t377 == t379) = false := by simpa using c51))
    (try (have c51b3 : ¬ (t377 = t379) := by simpa using c51))
    clear c51
    exact (laws_FnCoins.j0_bad _ H hr).elim
   rw [if_neg c51] at H
   have c51b0 : (t377 != t379) = false := by simpa using c51
   (try (have c51b1 : decide (t377 = t379) = true := by simpa using c51))
   (try (have c51b2 : (t377 == t379) = true := by simpa using c51))
   clear c51
   by_cases c52 : (t380 != t382) = true
   ·rw [if_pos c52] at H
    have c52b0 : (t380 != t382) = true := c52
    (try (have c52b1 : decide (t380 = t382) = false := by simpa using c52))
    (try (have c52b2 : (t380 == t382) = false := by simpa using c52))
    (try (have c52b3 : ¬ (t380 = t382) := by simpa using c52))
    clear c52
    exact (laws_FnCoins.j0_bad _ H hr).elim
   rw [if_neg c52] at H
   have c52b0 : (t380 != t382) = false := by simpa using c52
   (try (have c52b1 : decide (t380 = t382) = true := by simpa using c52))
   (try (have c52b2 : (t380 == t382) = true := by simpa using c52))
   clear c52
   by_cases c53 : (t381 != t383) = true
   ·rw [if_pos c53] at H
    have c53b0 : (t381 != t383) = true := c53
    (try (have c53b1 : decide (t381 = t383) = false := by simpa using c53))
    (try (have c53b2 : (t381 == t383) = false := by simpa using c53))
    (try (have c53b3 : ¬ (t381 = t383) := by simpa using c53))
    clear c53
    exact (laws_FnCoins.j0_bad _ H hr).elim
   rw [if_neg c53] at H
   have c53b0 : (t381 != t383) = false := by simpa using c53
   (try (have c53b1 : decide (t381 = t383) = true := by simpa using c53))
   (try (have c53b2 : (t381 == t383) = true := by simpa using c53))
   clear c53
   by_cases c54 : (t394 != t398) = true
   ·rw [if_pos c54] at H
    have c54b0 : (t394 != t398) = true := c54
    (try (have c54b1 : decide (t394 = t398) = false := by simpa using c54))
    (try (have c54b2 : (t394 == t398) = false := by simpa using c54))
    (try (have c54b3 : ¬ (t394 = t398) := by simpa using c54))
    clear c54
    exact (laws_FnCoins.j0_bad _ H hr).elim
   rw [if_neg c54] at H
   have c54b0 : (t394 != t398) = false := by simpa using c54
   (try (have c54b1 : decide (t394 = t398) = true := by simpa using c54))
   (try (have c54b2 : (t394 == t398) = true := by simpa using c54))
   clear c54
   replace H := Option.bind_eq_some_iff.mp H
   obtain ⟨t414, A550, H⟩ := H
   try dsimp only at H
   have A55 := Aside0.mk A550
   clear A550
   by_cases c56 : t414 = true
   rotate_left
   ·replace c56 := Bool.eq_false_iff.mpr c56
    subst c56
    rw [if_neg (show ¬ (false = true) by decide)] at H
    exact (laws_FnCoins.j0_bad _ H hr).elim
   subst c56
   rw [if_pos rfl] at H
   by_cases c57 : (t402 != t406) = true
   ·rw [if_pos c57] at H
    have c57b0 : (t402 != t406) = true := c57
    (try (have c57b1 : decide (t402 = t406) = false := by simpa using c57))
    (try (have c57b2 : (t402 == t406) = false := by simpa using c57))
    (try (have c57b3 : ¬ (t402 = t406) := by simpa using c57))
    clear c57
    exact (laws_FnCoins.j0_bad _ H hr).elim
   rw [if_neg c57] at H
   have c57b0 : (t402 != t406) = false := by simpa using c57
   (try (have c57b1 : decide (t402 = t406) = true := by simpa using c57))
   (try (have c57b2 : (t402 == t406) = true := by simpa using c57))
   clear c57
   replace H := Option.bind_eq_some_iff.mp H
   obtain ⟨t415, A580, H⟩ := H
   try dsimp only at H
   have A58 := Aside0.mk A580
   clear A580
   by_cases c59 : t415 = true
   rotate_left
   ·replace c59 := Bool.eq_false_iff.mpr c59
    subst c59
    rw [if_neg (show ¬ (false = true) by decide)] at H
    exact (laws_FnCoins.j0_bad _ H hr).elim
   subst c59
   rw [if_pos rfl] at H
   by_cases c60 : t409 = t411
   rotate_left
   ·rw [if_neg c60] at H
    have c60b0 : (t409 == t411) = false := beq_eq_false_iff_ne.mpr c60
    have c60b1 : (t409 != t411) = true := bne_iff_ne.mpr c60
    exact (laws_FnCoins.j0_bad _ H hr).elim
   rw [if_pos c60] at H
   have c60b0 : (t409 == t411) = true := beq_iff_eq.mpr c60
   have c60b1 : (t409 != t411) = false := bne_eq_false_iff_eq.mpr c60
   clear c60
   by_cases c61 : (t410 != t412) = true
   ·rw [if_pos c61] at H
    have c61b0 : (t410 != t412) = true := c61
    (try (have c61b1 : decide (t410 = t412) = false := by simpa using c61))
    (try (have c61b2 : (t410 == t412) = false := by simpa using c61))
    (try (have c61b3 : ¬ (t410 = t412) := by simpa using c61))
    clear c61
    exact (laws_FnCoins.j0_bad _ H hr).elim
   rw [if_neg c61] at H
   have c61b0 : (t410 != t412) = false := by simpa using c61
   (try (have c61b1 : decide (t410 = t412) = true := by simpa using c61))
   (try (have c61b2 : (t410 == t412) = true := by simpa using c61))
   clear c61
   by_cases c62 : t381 = true
   ·subst c62
    rw [if_pos rfl] at H
    by_cases c63 : (t373 != t380) = true
    ·rw [if_pos c63] at H
     have c63b0 : (t373 != t380) = true := c63
     (try (have c63b1 : decide (t373 = t380) = false := by simpa using c63))
     (try (have c63b2 : (t373 == t380) = false := by simpa using c63))
     (try (have c63b3 : ¬ (t373 = t380) := by simpa using c63))
     clear c63
     exact (laws_FnCoins.j0_bad _ H hr).elim
    rw [if_neg c63] at H
    have c63b0 : (t373 != t380) = false := by simpa using c63
    (try (have c63b1 : decide (t373 = t380) = true := by simpa using c63))
    (try (have c63b2 : (t373 == t380) = true := by simpa using c63))
    clear c63
    as_aux_lemma =>
     have H' := Aside0.mk H
     clear H
     obtain ⟨Ao64, co64, rfl⟩ := Kd.R_slice HO360.out
     obtain ⟨Ao65, co65, rfl⟩ := Kd.R_slice HO364.out
     go_wp2_with (first | (go_at_call 25; (with_reducible refine (laws_vPairs.calls k _ _ t357 _ _ t361 true _ (Sq.r HO360) (Sq.n HO360) (Sq.r HO364) (Sq.n HO364) A46.out).mono ?_); rintro e w' ⟨rfl, ⟨nd, rfl⟩⟩; obtain ⟨Ao66, co66, rfl⟩ := Kd.R_slice HO396.out; obtain ⟨Ao67, co67, rfl⟩ := Kd.R_slice HO400.out) | (go_at_call 26; (with_reducible refine (laws_vInts.calls k _ _ t393 _ _ t397 true _ (Sq.r HO396) (Sq.n HO396) (Sq.r HO400) (Sq.n HO400) A55.out).mono ?_); rintro e w' ⟨rfl, ⟨nd, rfl⟩⟩; obtain ⟨Ao68, co68, rfl⟩ := Kd.S_slice HO404.out; obtain ⟨Ao69, co69, rfl⟩ := Kd.S_slice HO408.out) | (go_at_call 27; (with_reducible refine (laws_vTable.calls k _ _ t401 _ _ t405 true _ (Sq.C ((Kd.S_reads' HO404.out).2.2)) ((Kd.S_reads' HO404.out).2.1) (Sq.C ((Kd.S_reads' HO408.out).2.2)) ((Kd.S_reads' HO408.out).2.1) A58.out).mono ?_); rintro e w' ⟨rfl, ⟨nd, rfl⟩⟩))
     go_meet
     case rel => exact ⟨_, ((t373 != t377)), (by first | rfl | (simp; done) | (simp [*]; done) | (simp [bne]; done)), H', ⟨by first | omega | exact Nat.le_refl _⟩, ⟨by (with_reducible repeat (first | apply Kd.S_alloc | apply Kd.S_drewN | apply Kd.S_drew)); exact Kd.S_mono HO354.out (fun _ hk => ⟨hk.1.1.1.1.1.1, ⟨hk.1.1.1.1.1.2, ⟨hk.1.1.1.1.2, ⟨hk.1.1.1.2, hk.1.2⟩⟩⟩⟩)⟩, ⟨Kd.R_mono (Sq.R HO356) (fun _ hk => hk.1.2)⟩, ⟨Kd.R_mono (Sq.R HO360) (fun _ hk => trivial)⟩, ⟨by (with_reducible repeat (first | apply Kd.S_alloc | apply Kd.S_drewN | apply Kd.S_drew)); exact Kd.S_mono HO371.out (fun _ hk => ⟨hk.1.1.1.1.1.1.2, ⟨hk.1.1.1.1.1.2, ⟨hk.1.1.1.1.2, ⟨hk.1.1.1.2, hk.1.2⟩⟩⟩⟩)⟩, ⟨by (with_reducible repeat (first | apply Kd.S_alloc | apply Kd.S_drewN | apply Kd.S_drew)); exact Kd.S_mono HO392.out (fun _ hk => ⟨hk.1.1.1.1.1.1.2, ⟨hk.1.1.1.1.1.2, ⟨hk.1.1.1.1.2, ⟨hk.1.1.1.2, hk.1.2⟩⟩⟩⟩)⟩, ⟨Kd.R_mono (Sq.R HO396) (fun _ hk => hk.1.2)⟩, ⟨by (with_reducible repeat (first | apply Kd.S_alloc | apply Kd.S_drewN | apply Kd.S_drew)); exact Kd.S_mono HO404.out (fun _ hk => ⟨hk.1.1.1.1.1.1.2, ⟨hk.1.1.1.1.1.2, ⟨hk.1.1.1.1.2, ⟨hk.1.1.1.2, hk.1.1.2⟩⟩⟩⟩)⟩, ⟨Sq.B HB⟩⟩
   replace c62 := Bool.eq_false_iff.mpr c62
   subst c62
   rw [if_neg (show ¬ (false = true) by decide)] at H
   by_cases c70 : (t373 != false) = true
   ·rw [if_pos c70] at H
    have c70b0 : (t373 != false) = true := c70
    (try (have c70b1 : decide (t373 = false) = false := by simpa using c70))
    (try (have c70b2 : (t373 == false) = false := by simpa using c70))
    (try (have c70b3 : ¬ (t373 = false) := by simpa using c70))
    clear c70
    exact (laws_FnCoins.j0_bad _ H hr).elim
   rw [if_neg c70] at H
   have c70b0 : (t373 != false) = false := by simpa using c70
   (try (have c70b1 : decide (t373 = false) = true := by simpa using c70))
   (try (have c70b2 : (t373 == false) = true := by simpa using c70))
   clear c70
   as_aux_lemma =>
    have H' := Aside0.mk H
    clear H
    obtain ⟨Ao71, co71, rfl⟩ := Kd.R_slice HO360.out
    obtain ⟨Ao72, co72, rfl⟩ := Kd.R_slice HO364.out
    go_wp2_with (first | (go_at_call 25; (with_reducible refine (laws_vPairs.calls k _ _ t357 _ _ t361 true _ (Sq.r HO360) (Sq.n HO360) (Sq.r HO364) (Sq.n HO364) A46.out).mono ?_); rintro e w' ⟨rfl, ⟨nd, rfl⟩⟩; obtain ⟨Ao73, co73, rfl⟩ := Kd.R_slice HO396.out; obtain ⟨Ao74, co74, rfl⟩ := Kd.R_slice HO400.out) | (go_at_call 26; (with_reducible refine (laws_vInts.calls k _ _ t393 _ _ t397 true _ (Sq.r HO396) (Sq.n HO396) (Sq.r HO400) (Sq.n HO400) A55.out).mono ?_); rintro e w' ⟨rfl, ⟨nd, rfl⟩⟩; obtain ⟨Ao75, co75, rfl⟩ := Kd.S_slice HO404.out; obtain ⟨Ao76, co76, rfl⟩ := Kd.S_slice HO408.out) | (go_at_call 27; (with_reducible refine (laws_vTable.calls k _ _ t401 _ _ t405 true _ (Sq.C ((Kd.S_reads' HO404.out).2.2)) ((Kd.S_reads' HO404.out).2.1) (Sq.C ((Kd.S_reads' HO408.out).2.2)) ((Kd.S_reads' HO408.out).2.1) A58.out).mono ?_); rintro e w' ⟨rfl, ⟨nd, rfl⟩⟩))
    go_meet
    case rel => exact ⟨_, ((t373 != t377)), (by first | rfl | (simp; done) | (simp [*]; done) | (simp [bne]; done)), H', ⟨by first | omega | exact Nat.le_refl _⟩, ⟨by (with_reducible repeat (first | apply Kd.S_alloc | apply Kd.S_drewN | apply Kd.S_drew)); exact Kd.S_mono HO354.out (fun _ hk => ⟨hk.1.1.1.1.1.1, ⟨hk.1.1.1.1.1.2, ⟨hk.1.1.1.1.2, ⟨hk.1.1.1.2, hk.1.2⟩⟩⟩⟩)⟩, ⟨Kd.R_mono (Sq.R HO356) (fun _ hk => hk.1.2)⟩, ⟨Kd.R_mono (Sq.R HO360) (fun _ hk => trivial)⟩, ⟨by (with_reducible repeat (first | apply Kd.S_alloc | apply Kd.S_drewN | apply Kd.S_drew)); exact Kd.S_mono HO371.out (fun _ hk => ⟨hk.1.1.1.1.1.1.2, ⟨hk.1.1.1.1.1.2, ⟨hk.1.1.1.1.2, ⟨hk.1.1.1.2, hk.1.2⟩⟩⟩⟩)⟩, ⟨by (with_reducible repeat (first | apply Kd.S_alloc | apply Kd.S_drewN | apply Kd.S_drew)); exact Kd.S_mono HO392.out (fun _ hk => ⟨hk.1.1.1.1.1.1.2, ⟨hk.1.1.1.1.1.2, ⟨hk.1.1.1.1.2, ⟨hk.1.1.1.2, hk.1.2⟩⟩⟩⟩)⟩, ⟨Kd.R_mono (Sq.R HO396) (fun _ hk => hk.1.2)⟩, ⟨by (with_reducible repeat (first | apply Kd.S_alloc | apply Kd.S_drewN | apply Kd.S_drew)); exact Kd.S_mono HO404.out (fun _ hk => ⟨hk.1.1.1.1.1.1.2, ⟨hk.1.1.1.1.1.2, ⟨hk.1.1.1.1.2, ⟨hk.1.1.1.2, hk.1.1.2⟩⟩⟩⟩)⟩, ⟨Sq.B HB⟩⟩
  case rest =>
   clear HC23
   obtain ⟨kq, x247_22, rfl, HA, HJ22, HO_4, HO_5, HO_6, HO_11, HO_25, HO_28, HO_32, HB⟩ := hcut
   cases kq with
   | zero => exact absurd HA.out (by simp [laws_FnCoins.j0])
   | succ kj22 =>
    have H := HA.out
    clear HA
    simp only [laws_FnCoins.j0] at H
    by_cases c77 : x247_22 = true
    ·subst c77
     rw [if_pos rfl] at H
     obtain rfl := Option.some.inj H
     cases hr
    replace c77 := Bool.eq_false_iff.mpr c77
    subst c77
    rw [if_neg (show ¬ (false = true) by decide)] at H
    have HC78 := Aside0.mk H
    clear H
    as_aux_lemma =>
     go_upto_if 248 with (fail)
     go_cut [] (fun wc => ∃ (kq : Nat), Aside0 (laws_FnCoins.j1 kq t350 t351 t352 t357 t358 t368 t369 t372 t373 t376 t387 t388 t389 t390 t393 t394 = some r) ∧ Aside0 (kq ≤ kj22) ∧ Aside0 (Kd.S (Kd.slice 3 (Kd.int .i64)) 25 wc w.heap.size (fun k_ => some k_ ≠ ((.slice Ao26 t352.length co26) : Value).ownBlock ∧ some k_ ≠ ((.slice Ao32 t369.length co32) : Value).ownBlock ∧ some k_ ≠ ((.slice Ao40 t388.length co40) : Value).ownBlock ∧ some k_ ≠ (v395 : Value).ownBlock) (.slice Ao25 t351.length co25) t351) ∧ Aside0 (Kd.R (Kd.int .i64) 3 wc w.heap.size (fun k_ => some k_ ≠ (v395 : Value).ownBlock) (.slice Ao26 t352.length co26) t352) ∧ Aside0 (Kd.R k47 47 wc w.heap.size (fun _ => True) v359 t357) ∧ Aside0 (Kd.S (Kd.slice 3 (Kd.int .i64)) 25 wc w.heap.size (fun k_ => some k_ ≠ ((.slice Ao25 t351.length co25) : Value).ownBlock ∧ some k_ ≠ ((.slice Ao26 t352.length co26) : Value).ownBlock ∧ some k_ ≠ ((.slice Ao40 t388.length co40) : Value).ownBlock ∧ some k_ ≠ (v395 : Value).ownBlock) (.slice Ao32 t369.length co32) t369) ∧ Aside0 (Kd.S (Kd.slice 3 (Kd.int .i64)) 25 wc w.heap.size (fun k_ => some k_ ≠ ((.slice Ao25 t351.length co25) : Value).ownBlock ∧ some k_ ≠ ((.slice Ao26 t352.length co26) : Value).ownBlock ∧ some k_ ≠ ((.slice Ao32 t369.length co32) : Value).ownBlock ∧ some k_ ≠ (v395 : Value).ownBlock) (.slice Ao40 t388.length co40) t388) ∧ Aside0 (Kd.R (Kd.int .i64) 3 wc w.heap.size (fun k_ => some k_ ≠ ((.slice Ao26 t352.length co26) : Value).ownBlock) v395 t393) ∧ Aside0 (Below w.heap.size w wc))
     case first =>
      have H := HC78.out
      clear HC78
      by_cases c79 : t402 = true
      rotate_left
      ·replace c79 := Bool.eq_false_iff.mpr c79
       subst c79
       rw [if_neg (show ¬ (false = true) by decide)] at H
       as_aux_lemma =>
        have H' := Aside0.mk H
        clear H
        go_wp2
        go_meet
        case rel => exact ⟨_, H', ⟨by have := HJ22.out; first | omega | exact Nat.le_refl _⟩, ⟨by (with_reducible repeat (first | apply Kd.S_alloc | apply Kd.S_drewN | apply Kd.S_drew)); exact Kd.S_mono HO_4.out (fun _ hk => ⟨hk.1, ⟨hk.2.1, ⟨hk.2.2.1, hk.2.2.2.1⟩⟩⟩)⟩, ⟨by (with_reducible repeat (first | apply Kd.R_alloc | apply Kd.R_drewN | apply Kd.R_drew)); exact HO_5.out⟩, ⟨by (with_reducible repeat (first | apply Kd.R_alloc | apply Kd.R_drewN | apply Kd.R_drew)); exact HO_6.out⟩, ⟨by (with_reducible repeat (first | apply Kd.S_alloc | apply Kd.S_drewN | apply Kd.S_drew)); exact Kd.S_mono HO_11.out (fun _ hk => ⟨hk.1, ⟨hk.2.1, ⟨hk.2.2.1, hk.2.2.2.1⟩⟩⟩)⟩, ⟨by (with_reducible repeat (first | apply Kd.S_alloc | apply Kd.S_drewN | apply Kd.S_drew)); exact Kd.S_mono HO_25.out (fun _ hk => ⟨hk.1, ⟨hk.2.1, ⟨hk.2.2.1, hk.2.2.2.1⟩⟩⟩)⟩, ⟨by (with_reducible repeat (first | apply Kd.R_alloc | apply Kd.R_drewN | apply Kd.R_drew)); exact HO_28.out⟩, ⟨Sq.B HB⟩⟩
      subst c79
      rw [if_pos rfl] at H
      replace H := Option.bind_eq_some_iff.mp H
      obtain ⟨⟨t416, t417⟩, A800, H⟩ := H
      try dsimp only at H
      have A80 := Aside0.mk A800
      clear A800
      replace H := Option.bind_eq_some_iff.mp H
      obtain ⟨⟨t418, t419⟩, A810, H⟩ := H
      try dsimp only at H
      have A81 := Aside0.mk A810
      clear A810
      by_cases c82 : t417 = true
      rotate_left
      ·replace c82 := Bool.eq_false_iff.mpr c82
       subst c82
       rw [if_neg (show ¬ (false = true) by decide)] at H
       obtain rfl := Option.some.inj H
       cases hr
      subst c82
      rw [if_pos rfl] at H
      by_cases c83 : t419 = true
      rotate_left
      ·replace c83 := Bool.eq_false_iff.mpr c83
       subst c83
       rw [if_neg (show ¬ (false = true) by decide)] at H
       obtain rfl := Option.some.inj H
       cases hr
      subst c83
      rw [if_pos rfl] at H
      by_cases c84 : t416 = true
      rotate_left
      ·replace c84 := Bool.eq_false_iff.mpr c84
       subst c84
       rw [if_neg (show ¬ (false = true) by decide)] at H
       obtain rfl := Option.some.inj H
       cases hr
      subst c84
      rw [if_pos rfl] at H
      by_cases c85 : t418 = true
      rotate_left
      ·replace c85 := Bool.eq_false_iff.mpr c85
       subst c85
       rw [if_neg (show ¬ (false = true) by decide)] at H
       obtain rfl := Option.some.inj H
       cases hr
      subst c85
      rw [if_pos rfl] at H
      by_cases c86 : t410 = true
      rotate_left
      ·replace c86 := Bool.eq_false_iff.mpr c86
       subst c86
       rw [if_neg (show ¬ (false = true) by decide)] at H
       obtain rfl := Option.some.inj H
       cases hr
      subst c86
      rw [if_pos rfl] at H
      by_cases c87 : (t401.length : Int) = t409
      rotate_left
      ·rw [if_neg c87] at H
       have c87b0 : ((t401.length : Int) == t409) = false := beq_eq_false_iff_ne.mpr c87
       have c87b1 : ((t401.length : Int) != t409) = true := bne_iff_ne.mpr c87
       (first | rw [c87b0] | (simp only [i64_w, i32_w]; rw [c87b0]) | skip)
       obtain rfl := Option.some.inj H
       cases hr
      rw [if_pos c87] at H
      have c87b0 : ((t401.length : Int) == t409) = true := beq_iff_eq.mpr c87
      have c87b1 : ((t401.length : Int) != t409) = false := bne_eq_false_iff_eq.mpr c87
      clear c87
      (first | rw [c87b0] | (simp only [i64_w, i32_w]; rw [c87b0]) | skip)
      as_aux_lemma =>
       have H' := Aside0.mk H
       clear H
       obtain ⟨Ao88, co88, rfl⟩ := Kd.S_slice HO_32.out
       go_wp2_with (first | ((with_reducible refine gate_callee (f := 16) rfl ?_); refine goesL_ (some 252) rfl rfl Try.func16 (by kernel_rfl) rfl #[.int .i64 t350, .slice Ao88 t401.length co88] rfl (by (try simp only [List.map_toArray, List.map_cons, List.map_nil]); first | done | rfl | (simp only [List.length_drop, List.length_take]; rfl)) ?_; (with_reducible refine (impl_IsCoinPlan.calls kj22 t350 _ _ t401 true true _ (Sq.C ((Kd.S_reads' HO_32.out).2.2)) ((Kd.S_reads' HO_32.out).2.1) A80.out).mono ?_); rintro e w' ⟨rfl, ⟨nd, rfl⟩⟩; refine ⟨_, rfl, ?_⟩) | ((with_reducible refine gate_callee (f := 12) rfl ?_); refine goesL_ (some 258) rfl rfl Try.func12 (by kernel_rfl) rfl #[.int .i64 t350, .slice Ao88 t401.length co88] rfl (by (try simp only [List.map_toArray, List.map_cons, List.map_nil]); first | done | rfl | (simp only [List.length_drop, List.length_take]; rfl)) ?_; (with_reducible refine (impl_TellsHeavy.calls kj22 t350 _ _ t401 true true _ (Sq.C ((Kd.S_reads' HO_32.out).2.2)) ((Kd.S_reads' HO_32.out).2.1) A81.out).mono ?_); rintro e w89 ⟨rfl, hb⟩; refine ⟨_, rfl, ?_⟩; replace HO_4 := Aside0.mk (Kd.S_below (by (with_reducible repeat (first | apply Kd.S_alloc | apply Kd.S_drewN | apply Kd.S_drew)); exact HO_4.out) hb); replace HO_5 := Sq.T HO_5 hb; replace HO_6 := Sq.T HO_6 hb; replace HO_11 := Aside0.mk (Kd.S_below (by (with_reducible repeat (first | apply Kd.S_alloc | apply Kd.S_drewN | apply Kd.S_drew)); exact HO_11.out) hb); replace HO_25 := Aside0.mk (Kd.S_below (by (with_reducible repeat (first | apply Kd.S_alloc | apply Kd.S_drewN | apply Kd.S_drew)); exact HO_25.out) hb); replace HO_28 := Sq.T HO_28 hb; replace HO_32 := Aside0.mk (Kd.S_below (by (with_reducible repeat (first | apply Kd.S_alloc | apply Kd.S_drewN | apply Kd.S_drew)); exact HO_32.out) hb); replace HB := Sq.S HB hb; clear hb))
       go_meet
       case rel => exact ⟨_, H', ⟨by have := HJ22.out; first | omega | exact Nat.le_refl _⟩, ⟨by (with_reducible repeat (first | apply Kd.S_alloc | apply Kd.S_drewN | apply Kd.S_drew)); exact Kd.S_mono HO_4.out (fun _ hk => ⟨hk.1, ⟨hk.2.1, ⟨hk.2.2.1, hk.2.2.2.1⟩⟩⟩)⟩, ⟨by (with_reducible repeat (first | apply Kd.R_alloc | apply Kd.R_drewN | apply Kd.R_drew)); exact HO_5.out⟩, ⟨by (with_reducible repeat (first | apply Kd.R_alloc | apply Kd.R_drewN | apply Kd.R_drew)); exact HO_6.out⟩, ⟨by (with_reducible repeat (first | apply Kd.S_alloc | apply Kd.S_drewN | apply Kd.S_drew)); exact Kd.S_mono HO_11.out (fun _ hk => ⟨hk.1, ⟨hk.2.1, ⟨hk.2.2.1, hk.2.2.2.1⟩⟩⟩)⟩, ⟨by (with_reducible repeat (first | apply Kd.S_alloc | apply Kd.S_drewN | apply Kd.S_drew)); exact Kd.S_mono HO_25.out (fun _ hk => ⟨hk.1, ⟨hk.2.1, ⟨hk.2.2.1, hk.2.2.2.1⟩⟩⟩)⟩, ⟨by (with_reducible repeat (first | apply Kd.R_alloc | apply Kd.R_drewN | apply Kd.R_drew)); exact HO_28.out⟩, ⟨Sq.B HB⟩⟩
     case rest =>
      clear HC78
      obtain ⟨kq, HA, HJ77, HO_4, HO_5, HO_6, HO_11, HO_25, HO_28, HB⟩ := hcut
      cases kq with
      | zero => exact absurd HA.out (by simp [laws_FnCoins.j1])
      | succ kj77 =>
       have H := HA.out
       clear HA
       simp only [laws_FnCoins.j1] at H
       have HC90 := Aside0.mk H
       clear H
       as_aux_lemma =>
        go_upto_if 285 with (fail)
        go_cut [] (fun wc => ∃ (kq : Nat), Aside0 (laws_FnCoins.j2 kq t350 t351 t352 t357 t358 t387 t388 t389 t390 t393 t394 = some r) ∧ Aside0 (kq ≤ kj77) ∧ Aside0 (Kd.S (Kd.slice 3 (Kd.int .i64)) 25 wc w.heap.size (fun k_ => some k_ ≠ ((.slice Ao26 t352.length co26) : Value).ownBlock ∧ some k_ ≠ ((.slice Ao40 t388.length co40) : Value).ownBlock ∧ some k_ ≠ (v395 : Value).ownBlock) (.slice Ao25 t351.length co25) t351) ∧ Aside0 (Kd.R (Kd.int .i64) 3 wc w.heap.size (fun k_ => some k_ ≠ (v395 : Value).ownBlock) (.slice Ao26 t352.length co26) t352) ∧ Aside0 (Kd.R k47 47 wc w.heap.size (fun _ => True) v359 t357) ∧ Aside0 (Kd.S (Kd.slice 3 (Kd.int .i64)) 25 wc w.heap.size (fun k_ => some k_ ≠ ((.slice Ao25 t351.length co25) : Value).ownBlock ∧ some k_ ≠ ((.slice Ao26 t352.length co26) : Value).ownBlock ∧ some k_ ≠ (v395 : Value).ownBlock) (.slice Ao40 t388.length co40) t388) ∧ Aside0 (Kd.R (Kd.int .i64) 3 wc w.heap.size (fun k_ => some k_ ≠ ((.slice Ao26 t352.length co26) : Value).ownBlock) v395 t393) ∧ Aside0 (Below w.heap.size w wc))
        case first =>
         have H := HC90.out
         clear HC90
         by_cases c91 : t373 = true
         rotate_left
         ·replace c91 := Bool.eq_false_iff.mpr c91
          subst c91
          rw [if_neg (show ¬ (false = true) by decide)] at H
          as_aux_lemma =>
           have H' := Aside0.mk H
           clear H
           go_wp2
           go_meet
           case rel => exact ⟨_, H', ⟨by have := HJ22.out; have := HJ77.out; first | omega | exact Nat.le_refl _⟩, ⟨by (with_reducible repeat (first | apply Kd.S_alloc | apply Kd.S_drewN | apply Kd.S_drew)); exact Kd.S_mono HO_4.out (fun _ hk => ⟨hk.1, ⟨hk.2.2.1, hk.2.2.2⟩⟩)⟩, ⟨by (with_reducible repeat (first | apply Kd.R_alloc | apply Kd.R_drewN | apply Kd.R_drew)); exact HO_5.out⟩, ⟨by (with_reducible repeat (first | apply Kd.R_alloc | apply Kd.R_drewN | apply Kd.R_drew)); exact HO_6.out⟩, ⟨by (with_reducible repeat (first | apply Kd.S_alloc | apply Kd.S_drewN | apply Kd.S_drew)); exact Kd.S_mono HO_25.out (fun _ hk => ⟨hk.1, ⟨hk.2.1, hk.2.2.2⟩⟩)⟩, ⟨by (with_reducible repeat (first | apply Kd.R_alloc | apply Kd.R_drewN | apply Kd.R_drew)); exact HO_28.out⟩, ⟨Sq.B HB⟩⟩
         subst c91
         rw [if_pos rfl] at H
         replace H := Option.bind_eq_some_iff.mp H
         obtain ⟨⟨t420, t421⟩, A920, H⟩ := H
         try dsimp only at H
         have A92 := Aside0.mk A920
         clear A920
         by_cases c93 : t421 = true
         rotate_left
         ·replace c93 := Bool.eq_false_iff.mpr c93
          subst c93
          rw [if_neg (show ¬ (false = true) by decide)] at H
          obtain rfl := Option.some.inj H
          cases hr
         subst c93
         rw [if_pos rfl] at H
         by_cases c94 : t376 = true
         ·subst c94
          rw [if_pos rfl] at H
          by_cases c95 : t372 = true
          rotate_left
          ·replace c95 := Bool.eq_false_iff.mpr c95
           subst c95
           rw [if_neg (show ¬ (false = true) by decide)] at H
           obtain rfl := Option.some.inj H
           cases hr
          subst c95
          rw [if_pos rfl] at H
          by_cases c96 : (t369.length : Int) < t420
          ·rw [if_pos c96] at H
           have c96b0 : decide ((t369.length : Int) < t420) = true := decide_eq_true c96
           clear c96
           (first | rw [c96b0] | (simp only [i64_w, i32_w]; rw [c96b0]) | skip)
           obtain rfl := Option.some.inj H
           cases hr
          rw [if_neg c96] at H
          have c96b0 : decide ((t369.length : Int) < t420) = false := decide_eq_false c96
          clear c96
          (first | rw [c96b0] | (simp only [i64_w, i32_w]; rw [c96b0]) | skip)
          as_aux_lemma =>
           have H' := Aside0.mk H
           clear H
           go_wp2_with (first | ((with_reducible refine gate_callee (f := 23) rfl ?_); refine goesL_ (some 288) rfl rfl Try.func23 (by kernel_rfl) rfl #[.int .i64 t368] rfl (by (try simp only [List.map_toArray, List.map_cons, List.map_nil]); first | done | rfl | (simp only [List.length_drop, List.length_take]; rfl)) ?_; (with_reducible refine (impl_WeighingsNeeded.calls kj77 t368 t420 true _ A92.out).mono ?_); rintro e w' ⟨rfl, ⟨nd, rfl⟩⟩; refine ⟨_, rfl, ?_⟩))
           go_meet
           case rel => exact ⟨_, H', ⟨by have := HJ22.out; have := HJ77.out; first | omega | exact Nat.le_refl _⟩, ⟨by (with_reducible repeat (first | apply Kd.S_alloc | apply Kd.S_drewN | apply Kd.S_drew)); exact Kd.S_mono HO_4.out (fun _ hk => ⟨hk.1, ⟨hk.2.2.1, hk.2.2.2⟩⟩)⟩, ⟨by (with_reducible repeat (first | apply Kd.R_alloc | apply Kd.R_drewN | apply Kd.R_drew)); exact HO_5.out⟩, ⟨by (with_reducible repeat (first | apply Kd.R_alloc | apply Kd.R_drewN | apply Kd.R_drew)); exact HO_6.out⟩, ⟨by (with_reducible repeat (first | apply Kd.S_alloc | apply Kd.S_drewN | apply Kd.S_drew)); exact Kd.S_mono HO_25.out (fun _ hk => ⟨hk.1, ⟨hk.2.1, hk.2.2.2⟩⟩)⟩, ⟨by (with_reducible repeat (first | apply Kd.R_alloc | apply Kd.R_drewN | apply Kd.R_drew)); exact HO_28.out⟩, ⟨Sq.B HB⟩⟩
         replace c94 := Bool.eq_false_iff.mpr c94
         subst c94
         rw [if_neg (show ¬ (false = true) by decide)] at H
         by_cases c97 : t372 = true
         rotate_left
         ·replace c97 := Bool.eq_false_iff.mpr c97
          subst c97
          rw [if_neg (show ¬ (false = true) by decide)] at H
          as_aux_lemma =>
           have H' := Aside0.mk H
           clear H
           go_wp2_with (first | ((with_reducible refine gate_callee (f := 23) rfl ?_); refine goesL_ (some 288) rfl rfl Try.func23 (by kernel_rfl) rfl #[.int .i64 t368] rfl (by (try simp only [List.map_toArray, List.map_cons, List.map_nil]); first | done | rfl | (simp only [List.length_drop, List.length_take]; rfl)) ?_; (with_reducible refine (impl_WeighingsNeeded.calls kj77 t368 t420 true _ A92.out).mono ?_); rintro e w' ⟨rfl, ⟨nd, rfl⟩⟩; refine ⟨_, rfl, ?_⟩))
           go_meet
           case rel => exact ⟨_, H', ⟨by have := HJ22.out; have := HJ77.out; first | omega | exact Nat.le_refl _⟩, ⟨by (with_reducible repeat (first | apply Kd.S_alloc | apply Kd.S_drewN | apply Kd.S_drew)); exact Kd.S_mono HO_4.out (fun _ hk => ⟨hk.1, ⟨hk.2.2.1, hk.2.2.2⟩⟩)⟩, ⟨by (with_reducible repeat (first | apply Kd.R_alloc | apply Kd.R_drewN | apply Kd.R_drew)); exact HO_5.out⟩, ⟨by (with_reducible repeat (first | apply Kd.R_alloc | apply Kd.R_drewN | apply Kd.R_drew)); exact HO_6.out⟩, ⟨by (with_reducible repeat (first | apply Kd.S_alloc | apply Kd.S_drewN | apply Kd.S_drew)); exact Kd.S_mono HO_25.out (fun _ hk => ⟨hk.1, ⟨hk.2.1, hk.2.2.2⟩⟩)⟩, ⟨by (with_reducible repeat (first | apply Kd.R_alloc | apply Kd.R_drewN | apply Kd.R_drew)); exact HO_28.out⟩, ⟨Sq.B HB⟩⟩
         subst c97
         rw [if_pos rfl] at H
         by_cases c98 : (t369.length : Int) < t420
         ·rw [if_pos c98] at H
          have c98b0 : decide ((t369.length : Int) < t420) = true := decide_eq_true c98
          clear c98
          obtain rfl := Option.some.inj H
          cases hr
         rw [if_neg c98] at H
         have c98b0 : decide ((t369.length : Int) < t420) = false := decide_eq_false c98
         clear c98
         as_aux_lemma =>
          have H' := Aside0.mk H
          clear H
          go_wp2_with (first | ((with_reducible refine gate_callee (f := 23) rfl ?_); refine goesL_ (some 288) rfl rfl Try.func23 (by kernel_rfl) rfl #[.int .i64 t368] rfl (by (try simp only [List.map_toArray, List.map_cons, List.map_nil]); first | done | rfl | (simp only [List.length_drop, List.length_take]; rfl)) ?_; (with_reducible refine (impl_WeighingsNeeded.calls kj77 t368 t420 true _ A92.out).mono ?_); rintro e w' ⟨rfl, ⟨nd, rfl⟩⟩; refine ⟨_, rfl, ?_⟩))
          go_meet
          case rel => exact ⟨_, H', ⟨by have := HJ22.out; have := HJ77.out; first | omega | exact Nat.le_refl _⟩, ⟨by (with_reducible repeat (first | apply Kd.S_alloc | apply Kd.S_drewN | apply Kd.S_drew)); exact Kd.S_mono HO_4.out (fun _ hk => ⟨hk.1, ⟨hk.2.2.1, hk.2.2.2⟩⟩)⟩, ⟨by (with_reducible repeat (first | apply Kd.R_alloc | apply Kd.R_drewN | apply Kd.R_drew)); exact HO_5.out⟩, ⟨by (with_reducible repeat (first | apply Kd.R_alloc | apply Kd.R_drewN | apply Kd.R_drew)); exact HO_6.out⟩, ⟨by (with_reducible repeat (first | apply Kd.S_alloc | apply Kd.S_drewN | apply Kd.S_drew)); exact Kd.S_mono HO_25.out (fun _ hk => ⟨hk.1, ⟨hk.2.1, hk.2.2.2⟩⟩)⟩, ⟨by (with_reducible repeat (first | apply Kd.R_alloc | apply Kd.R_drewN | apply Kd.R_drew)); exact HO_28.out⟩, ⟨Sq.B HB⟩⟩
        case rest =>
         clear HC90
         obtain ⟨kq, HA, HJ89, HO_4, HO_5, HO_6, HO_25, HO_28, HB⟩ := hcut
         cases kq with
         | zero => exact absurd HA.out (by simp [laws_FnCoins.j2])
         | succ kj89 =>
          have H := HA.out
          clear HA
          simp only [laws_FnCoins.j2] at H
          have HC99 := Aside0.mk H
          clear H
          as_aux_lemma =>
           go_upto_if 309 with (fail)
           go_cut [] (fun wc => ∃ (kq : Nat), Aside0 (laws_FnCoins.j5 kq t350 t351 t352 t357 t358 = some r) ∧ Aside0 (kq ≤ kj89) ∧ Aside0 (Kd.S (Kd.slice 3 (Kd.int .i64)) 25 wc w.heap.size (fun k_ => some k_ ≠ ((.slice Ao26 t352.length co26) : Value).ownBlock) (.slice Ao25 t351.length co25) t351) ∧ Aside0 (Kd.R (Kd.int .i64) 3 wc w.heap.size (fun _ => True) (.slice Ao26 t352.length co26) t352) ∧ Aside0 (Kd.R k47 47 wc w.heap.size (fun _ => True) v359 t357) ∧ Aside0 (Below w.heap.size w wc))
           case first =>
            have H := HC99.out
            clear HC99
            by_cases c100 : t394 = true
            rotate_left
            ·replace c100 := Bool.eq_false_iff.mpr c100
             subst c100
             rw [if_neg (show ¬ (false = true) by decide)] at H
             as_aux_lemma =>
              have H' := Aside0.mk H
              clear H
              go_wp2
              go_meet
              case rel => exact ⟨_, H', ⟨by have := HJ22.out; have := HJ77.out; have := HJ89.out; first | omega | exact Nat.le_refl _⟩, ⟨by (with_reducible repeat (first | apply Kd.S_alloc | apply Kd.S_drewN | apply Kd.S_drew)); exact Kd.S_mono HO_4.out (fun _ hk => hk.1)⟩, ⟨Kd.R_mono (Sq.R HO_5) (fun _ hk => trivial)⟩, ⟨by (with_reducible repeat (first | apply Kd.R_alloc | apply Kd.R_drewN | apply Kd.R_drew)); exact HO_6.out⟩, ⟨Sq.B HB⟩⟩
            subst c100
            rw [if_pos rfl] at H
            replace H := Option.bind_eq_some_iff.mp H
            obtain ⟨⟨t422, t423⟩, A1010, H⟩ := H
            try dsimp only at H
            have A101 := Aside0.mk A1010
            clear A1010
            have HC102 := Aside0.mk H
            clear H
            obtain ⟨Ao103, co103, rfl⟩ := Kd.R_slice HO_28.out
            as_aux_lemma =>
             go_upto_if 317 with (first | ((with_reducible refine gate_callee (f := 8) rfl ?_); refine goesL_ (some 314) rfl rfl Try.func8 (by kernel_rfl) rfl #[.int .i64 t387, .slice Ao40 t388.length co40, .slice Ao103 t393.length co103] rfl (by (try simp only [List.map_toArray, List.map_cons, List.map_nil]); first | done | rfl | (simp only [List.length_drop, List.length_take]; rfl)) ?_; (with_reducible refine (impl_CoinsWith.calls kj89 t387 _ _ t388 _ _ t393 t422 t423 _ (Sq.C ((Kd.S_reads' HO_25.out).2.2)) ((Kd.S_reads' HO_25.out).2.1) (Sq.r HO_28) (Sq.n HO_28) A101.out).mono ?_); rintro e w104 ⟨v424, rfl, ho0, hb⟩; refine ⟨_, rfl, ?_⟩; have HO425 := Sq.L (Sq.N ho0 HO_6) HB; replace HO_4 := Aside0.mk (Kd.S_below (by (with_reducible repeat (first | apply Kd.S_alloc | apply Kd.S_drewN | apply Kd.S_drew)); exact HO_4.out) hb); replace HO_5 := Sq.T HO_5 hb; replace HO_6 := Sq.E HO_6 ho0 hb; replace HO_25 := Aside0.mk (Kd.S_below (by (with_reducible repeat (first | apply Kd.S_alloc | apply Kd.S_drewN | apply Kd.S_drew)); exact HO_25.out) hb); replace HO_28 := Sq.T HO_28 hb; replace HB := Sq.S HB hb; clear hb ho0))
             (try simp only [Act.put, List.setIfInBounds_toArray, List.set_cons_zero, List.set_cons_succ])
             go_cut [48] (fun v48 wc => ∃ (kq : Nat) (x48_101 : Int), v48 = .int .i64 x48_101 ∧ Aside0 (laws_FnCoins.j3 kq t350 t351 t352 t357 t358 t387 t388 t389 t422 t423 x48_101 = some r) ∧ Aside0 (kq ≤ kj89) ∧ Aside0 (Kd.S (Kd.slice 3 (Kd.int .i64)) 25 wc w.heap.size (fun k_ => some k_ ≠ ((.slice Ao26 t352.length co26) : Value).ownBlock ∧ some k_ ≠ ((.slice Ao40 t388.length co40) : Value).ownBlock) (.slice Ao25 t351.length co25) t351) ∧ Aside0 (Kd.R (Kd.int .i64) 3 wc w.heap.size (fun _ => True) (.slice Ao26 t352.length co26) t352) ∧ Aside0 (Kd.R k47 47 wc w.heap.size (fun k_ => some k_ ≠ (v424 : Value).ownBlock) v359 t357) ∧ Aside0 (Kd.S (Kd.slice 3 (Kd.int .i64)) 25 wc w.heap.size (fun k_ => some k_ ≠ ((.slice Ao25 t351.length co25) : Value).ownBlock ∧ some k_ ≠ ((.slice Ao26 t352.length co26) : Value).ownBlock) (.slice Ao40 t388.length co40) t388) ∧ Aside0 (Kd.R k47 47 wc w.heap.size (fun k_ => some k_ ≠ (v359 : Value).ownBlock) v424 t422) ∧ Aside0 (Below w.heap.size w wc))
             case first =>
              have H := HC102.out
              clear HC102
              by_cases c105 : t390 = true
              ·subst c105
               rw [if_pos rfl] at H
               as_aux_lemma =>
                have H' := Aside0.mk H
                clear H
                go_wp2
                go_meet
                case rel => exact ⟨_, (1), (by first | rfl | (simp; done) | (simp [*]; done) | (simp [bne]; done)), H', ⟨by have := HJ22.out; have := HJ77.out; have := HJ89.out; first | omega | exact Nat.le_refl _⟩, ⟨by (with_reducible repeat (first | apply Kd.S_alloc | apply Kd.S_drewN | apply Kd.S_drew)); exact Kd.S_mono HO_4.out (fun _ hk => ⟨hk.1, hk.2.1⟩)⟩, ⟨Kd.R_mono (Sq.R HO_5) (fun _ hk => trivial)⟩, ⟨Kd.R_mono (Sq.R HO_6) (fun _ hk => hk.2)⟩, ⟨by (with_reducible repeat (first | apply Kd.S_alloc | apply Kd.S_drewN | apply Kd.S_drew)); exact Kd.S_mono HO_25.out (fun _ hk => ⟨hk.1, hk.2.1⟩)⟩, ⟨Kd.R_mono (Sq.R HO425) (fun _ hk => hk.2)⟩, ⟨Sq.B HB⟩⟩
              replace c105 := Bool.eq_false_iff.mpr c105
              subst c105
              rw [if_neg (show ¬ (false = true) by decide)] at H
              as_aux_lemma =>
               have H' := Aside0.mk H
               clear H
               go_wp2
               go_meet
               case rel => exact ⟨_, ((-1)), (by first | rfl | (simp; done) | (simp [*]; done) | (simp [bne]; done)), H', ⟨by have := HJ22.out; have := HJ77.out; have := HJ89.out; first | omega | exact Nat.le_refl _⟩, ⟨by (with_reducible repeat (first | apply Kd.S_alloc | apply Kd.S_drewN | apply Kd.S_drew)); exact Kd.S_mono HO_4.out (fun _ hk => ⟨hk.1, hk.2.1⟩)⟩, ⟨Kd.R_mono (Sq.R HO_5) (fun _ hk => trivial)⟩, ⟨Kd.R_mono (Sq.R HO_6) (fun _ hk => hk.2)⟩, ⟨by (with_reducible repeat (first | apply Kd.S_alloc | apply Kd.S_drewN | apply Kd.S_drew)); exact Kd.S_mono HO_25.out (fun _ hk => ⟨hk.1, hk.2.1⟩)⟩, ⟨Kd.R_mono (Sq.R HO425) (fun _ hk => hk.2)⟩, ⟨Sq.B HB⟩⟩
             case rest =>
              clear HC102
              obtain ⟨kq, x48_101, rfl, HA, HJ101, HO_4, HO_5, HO_6, HO_25, HO_46, HB⟩ := hcut
              cases kq with
              | zero => exact absurd HA.out (by simp [laws_FnCoins.j3])
              | succ kj101 =>
               have H := HA.out
               clear HA
               simp only [laws_FnCoins.j3] at H
               have H' := Aside0.mk H
               clear H
               as_aux_lemma =>
                go_wp2
                go_loopg [49, 50] kj101 (fun kq v49 v50 w' => ∃ (x49_5 : Bool) (x50_5 : Int), v49 = .bool x49_5 ∧ v50 = .int .i64 x50_5 ∧ Aside0 (laws_FnCoins.l0 kq t350 t351 t352 t357 t358 t387 t388 t389 t422 t423 x48_101 x49_5 x50_5 = some r) ∧ Aside0 (kq ≤ kj101) ∧ Aside0 (Kd.S (Kd.slice 3 (Kd.int .i64)) 25 w' w.heap.size (fun k_ => some k_ ≠ ((.slice Ao26 t352.length co26) : Value).ownBlock ∧ some k_ ≠ ((.slice Ao40 t388.length co40) : Value).ownBlock) (.slice Ao25 t351.length co25) t351) ∧ Aside0 (Kd.R (Kd.int .i64) 3 w' w.heap.size (fun _ => True) (.slice Ao26 t352.length co26) t352) ∧ Aside0 (Kd.R k47 47 w' w.heap.size (fun k_ => some k_ ≠ (v424 : Value).ownBlock) v359 t357) ∧ Aside0 (Kd.S (Kd.slice 3 (Kd.int .i64)) 25 w' w.heap.size (fun k_ => some k_ ≠ ((.slice Ao25 t351.length co25) : Value).ownBlock ∧ some k_ ≠ ((.slice Ao26 t352.length co26) : Value).ownBlock) (.slice Ao40 t388.length co40) t388) ∧ Aside0 (Kd.R k47 47 w' w.heap.size (fun k_ => some k_ ≠ (v359 : Value).ownBlock) v424 t422) ∧ Aside0 (Below w.heap.size w w'))
                case atStart => exact ⟨(false), (0), (by first | rfl | (simp; done) | (simp [*]; done) | (simp [bne]; done)), (by first | rfl | (simp; done) | (simp [*]; done) | (simp [bne]; done)), H', ⟨Nat.le_refl _⟩, ⟨by (with_reducible repeat (first | apply Kd.S_alloc | apply Kd.S_drewN | apply Kd.S_drew)); exact HO_4.out⟩, ⟨by (with_reducible repeat (first | apply Kd.R_alloc | apply Kd.R_drewN | apply Kd.R_drew)); exact HO_5.out⟩, ⟨by (with_reducible repeat (first | apply Kd.R_alloc | apply Kd.R_drewN | apply Kd.R_drew)); exact HO_6.out⟩, ⟨by (with_reducible repeat (first | apply Kd.S_alloc | apply Kd.S_drewN | apply Kd.S_drew)); exact HO_25.out⟩, ⟨by (with_reducible repeat (first | apply Kd.R_alloc | apply Kd.R_drewN | apply Kd.R_drew)); exact HO_46.out⟩, ⟨Sq.B HB⟩⟩
                case round =>
                 clear H'
                 obtain ⟨x49_5, x50_5, rfl, rfl, HA, HK5, HO_4, HO_5, HO_6, HO_25, HO_46, HB⟩ := hrel
                 cases gk with
                 | zero => exact absurd HA.out (by simp [laws_FnCoins.l0])
                 | succ k5 =>
                  have H := HA.out
                  clear HA
                  simp only [laws_FnCoins.l0] at H
                  by_cases c106 : x50_5 < (t422.length : Int)
                  rotate_left
                  ·rw [if_neg c106] at H
                   have c106b0 : decide (x50_5 < (t422.length : Int)) = false := decide_eq_false c106
                   clear c106
                   replace H := Option.bind_eq_some_iff.mp H
                   obtain ⟨⟨t427, t428⟩, A1150, H⟩ := H
                   try dsimp only at H
                   have A115 := Aside0.mk A1150
                   clear A1150
                   by_cases c116 : t423 = true
                   rotate_left
                   ·replace c116 := Bool.eq_false_iff.mpr c116
                    subst c116
                    rw [if_neg (show ¬ (false = true) by decide)] at H
                    obtain rfl := Option.some.inj H
                    cases hr
                   subst c116
                   rw [if_pos rfl] at H
                   by_cases c117 : x49_5 = true
                   rotate_left
                   ·replace c117 := Bool.eq_false_iff.mpr c117
                    subst c117
                    rw [if_neg (show ¬ (false = true) by decide)] at H
                    obtain rfl := Option.some.inj H
                    cases hr
                   subst c117
                   rw [if_pos rfl] at H
                   by_cases c118 : t427 = true
                   rotate_left
                   ·replace c118 := Bool.eq_false_iff.mpr c118
                    subst c118
                    rw [if_neg (show ¬ (false = true) by decide)] at H
                    as_aux_lemma =>
                     have H' := Aside0.mk H
                     clear H
                     obtain ⟨Ao122, co122, rfl⟩ := Kd.R_slice HO_46.out
                     go_wp2_with (first | ((with_reducible refine gate_callee (f := 14) rfl ?_); refine goesL_ (some 338) rfl rfl Try.func14 (by kernel_rfl) rfl #[.int .i64 t387, .slice Ao40 t388.length co40] rfl (by (try simp only [List.map_toArray, List.map_cons, List.map_nil]); first | done | rfl | (simp only [List.length_drop, List.length_take]; rfl)) ?_; (with_reducible refine (impl_TellsBoth.calls k5 t387 _ _ t388 false t428 _ (Sq.C ((Kd.S_reads' HO_25.out).2.2)) ((Kd.S_reads' HO_25.out).2.1) A115.out).mono ?_); rintro e w123 ⟨rfl, hb⟩; refine ⟨_, rfl, ?_⟩; replace HO_4 := Aside0.mk (Kd.S_below (by (with_reducible repeat (first | apply Kd.S_alloc | apply Kd.S_drewN | apply Kd.S_drew)); exact HO_4.out) hb); replace HO_5 := Sq.T HO_5 hb; replace HO_6 := Sq.T HO_6 hb; replace HO_25 := Aside0.mk (Kd.S_below (by (with_reducible repeat (first | apply Kd.S_alloc | apply Kd.S_drewN | apply Kd.S_drew)); exact HO_25.out) hb); replace HO_46 := Sq.T HO_46 hb; replace HB := Sq.S HB hb; clear hb))
                     go_meet
                     case rel => exact ⟨_, H', ⟨by have := HJ22.out; have := HJ77.out; have := HJ89.out; have := HJ101.out; have := HK5.out; first | omega | exact Nat.le_refl _⟩, ⟨by (with_reducible repeat (first | apply Kd.S_alloc | apply Kd.S_drewN | apply Kd.S_drew)); exact Kd.S_mono HO_4.out (fun _ hk => hk.1)⟩, ⟨by (with_reducible repeat (first | apply Kd.R_alloc | apply Kd.R_drewN | apply Kd.R_drew)); exact HO_5.out⟩, ⟨Kd.R_mono (Sq.R HO_6) (fun _ hk => trivial)⟩, ⟨Sq.B HB⟩⟩
                   subst c118
                   rw [if_pos rfl] at H
                   by_cases c119 : (t422.length : Int) = 1
                   rotate_left
                   ·rw [if_neg c119] at H
                    have c119b0 : ((t422.length : Int) == 1) = false := beq_eq_false_iff_ne.mpr c119
                    have c119b1 : ((t422.length : Int) != 1) = true := bne_iff_ne.mpr c119
                    obtain rfl := Option.some.inj H
                    cases hr
                   rw [if_pos c119] at H
                   have c119b0 : ((t422.length : Int) == 1) = true := beq_iff_eq.mpr c119
                   have c119b1 : ((t422.length : Int) != 1) = false := bne_eq_false_iff_eq.mpr c119
                   clear c119
                   as_aux_lemma =>
                    have H' := Aside0.mk H
                    clear H
                    obtain ⟨Ao120, co120, rfl⟩ := Kd.R_slice HO_46.out
                    go_wp2_with (first | ((with_reducible refine gate_callee (f := 14) rfl ?_); refine goesL_ (some 338) rfl rfl Try.func14 (by kernel_rfl) rfl #[.int .i64 t387, .slice Ao40 t388.length co40] rfl (by (try simp only [List.map_toArray, List.map_cons, List.map_nil]); first | done | rfl | (simp only [List.length_drop, List.length_take]; rfl)) ?_; (with_reducible refine (impl_TellsBoth.calls k5 t387 _ _ t388 true t428 _ (Sq.C ((Kd.S_reads' HO_25.out).2.2)) ((Kd.S_reads' HO_25.out).2.1) A115.out).mono ?_); rintro e w121 ⟨rfl, hb⟩; refine ⟨_, rfl, ?_⟩; replace HO_4 := Aside0.mk (Kd.S_below (by (with_reducible repeat (first | apply Kd.S_alloc | apply Kd.S_drewN | apply Kd.S_drew)); exact HO_4.out) hb); replace HO_5 := Sq.T HO_5 hb; replace HO_6 := Sq.T HO_6 hb; replace HO_25 := Aside0.mk (Kd.S_below (by (with_reducible repeat (first | apply Kd.S_alloc | apply Kd.S_drewN | apply Kd.S_drew)); exact HO_25.out) hb); replace HO_46 := Sq.T HO_46 hb; replace HB := Sq.S HB hb; clear hb))
                    go_meet
                    case rel => exact ⟨_, H', ⟨by have := HJ22.out; have := HJ77.out; have := HJ89.out; have := HJ101.out; have := HK5.out; first | omega | exact Nat.le_refl _⟩, ⟨by (with_reducible repeat (first | apply Kd.S_alloc | apply Kd.S_drewN | apply Kd.S_drew)); exact Kd.S_mono HO_4.out (fun _ hk => hk.1)⟩, ⟨by (with_reducible repeat (first | apply Kd.R_alloc | apply Kd.R_drewN | apply Kd.R_drew)); exact HO_5.out⟩, ⟨Kd.R_mono (Sq.R HO_6) (fun _ hk => trivial)⟩, ⟨Sq.B HB⟩⟩
                  rw [if_pos c106] at H
                  have c106b0 : decide (x50_5 < (t422.length : Int)) = true := decide_eq_true c106
                  clear c106
                  by_cases c107 : x49_5 = true
                  ·subst c107
                   rw [if_pos rfl] at H
                   as_aux_lemma =>
                    have H' := Aside0.mk H
                    clear H
                    obtain ⟨Ao108, co108, rfl⟩ := Kd.R_slice HO_46.out
                    go_wp2
                    go_roundg k5
                    case measure => have := HJ22.out; have := HJ77.out; have := HJ89.out; have := HJ101.out; have := HK5.out; omega
                    case rel => exact ⟨(true), (wrap64 (x50_5 + 1)), (by first | rfl | (simp; done) | (simp [*]; done) | (simp [bne]; done)), (by first | rfl | (simp; done) | (simp [*]; done) | (simp [bne]; done)), H', ⟨by have := HJ22.out; have := HJ77.out; have := HJ89.out; have := HJ101.out; have := HK5.out; omega⟩, ⟨by (with_reducible repeat (first | apply Kd.S_alloc | apply Kd.S_drewN | apply Kd.S_drew)); exact HO_4.out⟩, ⟨by (with_reducible repeat (first | apply Kd.R_alloc | apply Kd.R_drewN | apply Kd.R_drew)); exact HO_5.out⟩, ⟨by (with_reducible repeat (first | apply Kd.R_alloc | apply Kd.R_drewN | apply Kd.R_drew)); exact HO_6.out⟩, ⟨by (with_reducible repeat (first | apply Kd.S_alloc | apply Kd.S_drewN | apply Kd.S_drew)); exact HO_25.out⟩, ⟨by (with_reducible repeat (first | apply Kd.R_alloc | apply Kd.R_drewN | apply Kd.R_drew)); exact HO_46.out⟩, ⟨Sq.B HB⟩⟩
                  replace c107 := Bool.eq_false_iff.mpr c107
                  subst c107
                  rw [if_neg (show ¬ (false = true) by decide)] at H
                  by_cases c109 : 0 ≤ x50_5
                  rotate_left
                  ·rw [if_neg c109] at H
                   exact absurd H (by simp)
                  rw [if_pos c109] at H
                  have c109b0 : decide (0 ≤ x50_5) = true := decide_eq_true c109
                  clear c109
                  by_cases c110 : ((rd_T47 t422 x50_5).f0) = t389
                  rotate_left
                  ·rw [if_neg c110] at H
                   have c110b0 : (((rd_T47 t422 x50_5).f0) == t389) = false := beq_eq_false_iff_ne.mpr c110
                   have c110b1 : (((rd_T47 t422 x50_5).f0) != t389) = true := bne_iff_ne.mpr c110
                   as_aux_lemma =>
                    have H' := Aside0.mk H
                    clear H
                    obtain ⟨Ao114, co114, rfl⟩ := Kd.R_slice HO_46.out
                    have p426 : 0 ≤ (x50_5 : Int) := of_decide_eq_true (by first | (with_reducible assumption) | assumption)
                    have q426 : x50_5 < (t422.length : Int) := of_decide_eq_true (by first | (with_reducible assumption) | assumption)
                    obtain ⟨ad426, e426, hx426_0, hx426_1⟩ := at_T47 (Kd.R_reads' HO_46.out).2.2 x50_5 p426 q426
                    cases e426
                    replace p426 := eq_true p426
                    replace q426 := eq_true q426
                    go_wp2
                    go_roundg k5
                    case measure => have := HJ22.out; have := HJ77.out; have := HJ89.out; have := HJ101.out; have := HK5.out; omega
                    case rel => exact ⟨(false), (wrap64 (x50_5 + 1)), (by first | rfl | (simp; done) | (simp [*]; done) | (simp [bne]; done)), (by first | rfl | (simp; done) | (simp [*]; done) | (simp [bne]; done)), H', ⟨by have := HJ22.out; have := HJ77.out; have := HJ89.out; have := HJ101.out; have := HK5.out; omega⟩, ⟨by (with_reducible repeat (first | apply Kd.S_alloc | apply Kd.S_drewN | apply Kd.S_drew)); exact HO_4.out⟩, ⟨by (with_reducible repeat (first | apply Kd.R_alloc | apply Kd.R_drewN | apply Kd.R_drew)); exact HO_5.out⟩, ⟨by (with_reducible repeat (first | apply Kd.R_alloc | apply Kd.R_drewN | apply Kd.R_drew)); exact HO_6.out⟩, ⟨by (with_reducible repeat (first | apply Kd.S_alloc | apply Kd.S_drewN | apply Kd.S_drew)); exact HO_25.out⟩, ⟨by (with_reducible repeat (first | apply Kd.R_alloc | apply Kd.R_drewN | apply Kd.R_drew)); exact HO_46.out⟩, ⟨Sq.B HB⟩⟩
                  rw [if_pos c110] at H
                  have c110b0 : (((rd_T47 t422 x50_5).f0) == t389) = true := beq_iff_eq.mpr c110
                  have c110b1 : (((rd_T47 t422 x50_5).f0) != t389) = false := bne_eq_false_iff_eq.mpr c110
                  clear c110
                  by_cases c111 : ((rd_T47 t422 x50_5).f1) = x48_101
                  rotate_left
                  ·rw [if_neg c111] at H
                   have c111b0 : (((rd_T47 t422 x50_5).f1) == x48_101) = false := beq_eq_false_iff_ne.mpr c111
                   have c111b1 : (((rd_T47 t422 x50_5).f1) != x48_101) = true := bne_iff_ne.mpr c111
                   as_aux_lemma =>
                    have H' := Aside0.mk H
                    clear H
                    obtain ⟨Ao113, co113, rfl⟩ := Kd.R_slice HO_46.out
                    have p426 : 0 ≤ (x50_5 : Int) := of_decide_eq_true (by first | (with_reducible assumption) | assumption)
                    have q426 : x50_5 < (t422.length : Int) := of_decide_eq_true (by first | (with_reducible assumption) | assumption)
                    obtain ⟨ad426, e426, hx426_0, hx426_1⟩ := at_T47 (Kd.R_reads' HO_46.out).2.2 x50_5 p426 q426
                    cases e426
                    replace p426 := eq_true p426
                    replace q426 := eq_true q426
                    go_wp2
                    go_roundg k5
                    case measure => have := HJ22.out; have := HJ77.out; have := HJ89.out; have := HJ101.out; have := HK5.out; omega
                    case rel => exact ⟨(false), (wrap64 (x50_5 + 1)), (by first | rfl | (simp; done) | (simp [*]; done) | (simp [bne]; done)), (by first | rfl | (simp; done) | (simp [*]; done) | (simp [bne]; done)), H', ⟨by have := HJ22.out; have := HJ77.out; have := HJ89.out; have := HJ101.out; have := HK5.out; omega⟩, ⟨by (with_reducible repeat (first | apply Kd.S_alloc | apply Kd.S_drewN | apply Kd.S_drew)); exact HO_4.out⟩, ⟨by (with_reducible repeat (first | apply Kd.R_alloc | apply Kd.R_drewN | apply Kd.R_drew)); exact HO_5.out⟩, ⟨by (with_reducible repeat (first | apply Kd.R_alloc | apply Kd.R_drewN | apply Kd.R_drew)); exact HO_6.out⟩, ⟨by (with_reducible repeat (first | apply Kd.S_alloc | apply Kd.S_drewN | apply Kd.S_drew)); exact HO_25.out⟩, ⟨by (with_reducible repeat (first | apply Kd.R_alloc | apply Kd.R_drewN | apply Kd.R_drew)); exact HO_46.out⟩, ⟨Sq.B HB⟩⟩
                  rw [if_pos c111] at H
                  have c111b0 : (((rd_T47 t422 x50_5).f1) == x48_101) = true := beq_iff_eq.mpr c111
                  have c111b1 : (((rd_T47 t422 x50_5).f1) != x48_101) = false := bne_eq_false_iff_eq.mpr c111
                  clear c111
                  as_aux_lemma =>
                   have H' := Aside0.mk H
                   clear H
                   obtain ⟨Ao112, co112, rfl⟩ := Kd.R_slice HO_46.out
                   have p426 : 0 ≤ (x50_5 : Int) := of_decide_eq_true (by first | (with_reducible assumption) | assumption)
                   have q426 : x50_5 < (t422.length : Int) := of_decide_eq_true (by first | (with_reducible assumption) | assumption)
                   obtain ⟨ad426, e426, hx426_0, hx426_1⟩ := at_T47 (Kd.R_reads' HO_46.out).2.2 x50_5 p426 q426
                   cases e426
                   replace p426 := eq_true p426
                   replace q426 := eq_true q426
                   go_wp2
                   go_roundg k5
                   case measure => have := HJ22.out; have := HJ77.out; have := HJ89.out; have := HJ101.out; have := HK5.out; omega
                   case rel => exact ⟨(true), (wrap64 (x50_5 + 1)), (by first | rfl | (simp; done) | (simp [*]; done) | (simp [bne]; done)), (by first | rfl | (simp; done) | (simp [*]; done) | (simp [bne]; done)), H', ⟨by have := HJ22.out; have := HJ77.out; have := HJ89.out; have := HJ101.out; have := HK5.out; omega⟩, ⟨by (with_reducible repeat (first | apply Kd.S_alloc | apply Kd.S_drewN | apply Kd.S_drew)); exact HO_4.out⟩, ⟨by (with_reducible repeat (first | apply Kd.R_alloc | apply Kd.R_drewN | apply Kd.R_drew)); exact HO_5.out⟩, ⟨by (with_reducible repeat (first | apply Kd.R_alloc | apply Kd.R_drewN | apply Kd.R_drew)); exact HO_6.out⟩, ⟨by (with_reducible repeat (first | apply Kd.S_alloc | apply Kd.S_drewN | apply Kd.S_drew)); exact HO_25.out⟩, ⟨by (with_reducible repeat (first | apply Kd.R_alloc | apply Kd.R_drewN | apply Kd.R_drew)); exact HO_46.out⟩, ⟨Sq.B HB⟩⟩
           case rest =>
            clear HC99; try clear hx4; try clear hx42; try clear hx426_0; try clear hx426_1
            obtain ⟨kq, HA, HJ98, HO_4, HO_5, HO_6, HB⟩ := hcut
            cases kq with
            | zero => exact absurd HA.out (by simp [laws_FnCoins.j5])
            | succ kj98 =>
             have H := HA.out
             clear HA
             simp only [laws_FnCoins.j5] at H
             have H' := Aside0.mk H
             clear H
             as_aux_lemma =>
              go_wp2
              go_loopg [53] kj98 (fun kq v53 w' => ∃ (x53_5 : Int), v53 = .int .i64 x53_5 ∧ Aside0 (laws_FnCoins.l1 kq t350 t351 t352 t357 t358 x53_5 = some r) ∧ Aside0 (kq ≤ kj98) ∧ Aside0 (Kd.S (Kd.slice 3 (Kd.int .i64)) 25 w' w.heap.size (fun k_ => some k_ ≠ ((.slice Ao26 t352.length co26) : Value).ownBlock) (.slice Ao25 t351.length co25) t351) ∧ Aside0 (Kd.R (Kd.int .i64) 3 w' w.heap.size (fun _ => True) (.slice Ao26 t352.length co26) t352) ∧ Aside0 (Kd.R k47 47 w' w.heap.size (fun _ => True) v359 t357) ∧ Aside0 (Below w.heap.size w w'))
              case atStart => exact ⟨(0), (by first | rfl | (simp; done) | (simp [*]; done) | (simp [bne]; done)), H', ⟨Nat.le_refl _⟩, ⟨by (with_reducible repeat (first | apply Kd.S_alloc | apply Kd.S_drewN | apply Kd.S_drew)); exact HO_4.out⟩, ⟨by (with_reducible repeat (first | apply Kd.R_alloc | apply Kd.R_drewN | apply Kd.R_drew)); exact HO_5.out⟩, ⟨by (with_reducible repeat (first | apply Kd.R_alloc | apply Kd.R_drewN | apply Kd.R_drew)); exact HO_6.out⟩, ⟨Sq.B HB⟩⟩
              case round =>
               clear H'; try clear hx4; try clear hx42; try clear hx426_0; try clear hx426_1
               obtain ⟨x53_5, rfl, HA, HK5, HO_4, HO_5, HO_6, HB⟩ := hrel
               cases gk with
               | zero => exact absurd HA.out (by simp [laws_FnCoins.l1])
               | succ k5 =>
                have H := HA.out
                clear HA
                simp only [laws_FnCoins.l1] at H
                have HC124 := Aside0.mk H
                clear H
                as_aux_lemma =>
                 go_upto_region 45 with (fail)
                 go_cut [361] (fun v361 wc => ∃ (kq : Nat) (x361_123 : Bool), v361 = .bool x361_123 ∧ Aside0 (laws_FnCoins.j7 kq t350 t351 t352 t357 t358 x53_5 x361_123 = some r) ∧ Aside0 (kq ≤ k5) ∧ Aside0 (Kd.S (Kd.slice 3 (Kd.int .i64)) 25 wc w.heap.size (fun k_ => some k_ ≠ ((.slice Ao26 t352.length co26) : Value).ownBlock) (.slice Ao25 t351.length co25) t351) ∧ Aside0 (Kd.R (Kd.int .i64) 3 wc w.heap.size (fun _ => True) (.slice Ao26 t352.length co26) t352) ∧ Aside0 (Kd.R k47 47 wc w.heap.size (fun _ => True) v359 t357) ∧ Aside0 (Below w.heap.size w wc))
                 case first =>
                  have H := HC124.out
                  clear HC124
                  by_cases c125 : t358 = true
                  rotate_left
                  ·replace c125 := Bool.eq_false_iff.mpr c125
                   subst c125
                   rw [if_neg (show ¬ (false = true) by decide)] at H
                   as_aux_lemma =>
                    have H' := Aside0.mk H
                    clear H
                    go_wp2
                    go_meet
                    case rel => exact ⟨_, (false), (by first | rfl | (simp; done) | (simp [*]; done) | (simp [bne]; done)), H', ⟨by have := HJ22.out; have := HJ77.out; have := HJ89.out; have := HJ98.out; have := HK5.out; first | omega | exact Nat.le_refl _⟩, ⟨by (with_reducible repeat (first | apply Kd.S_alloc | apply Kd.S_drewN | apply Kd.S_drew)); exact HO_4.out⟩, ⟨by (with_reducible repeat (first | apply Kd.R_alloc | apply Kd.R_drewN | apply Kd.R_drew)); exact HO_5.out⟩, ⟨by (with_reducible repeat (first | apply Kd.R_alloc | apply Kd.R_drewN | apply Kd.R_drew)); exact HO_6.out⟩, ⟨Sq.B HB⟩⟩
                  subst c125
                  rw [if_pos rfl] at H
                  as_aux_lemma =>
                   have H' := Aside0.mk H
                   clear H
                   obtain ⟨Ao126, co126, rfl⟩ := Kd.R_slice HO_6.out
                   go_wp2
                   go_meet
                   case rel => exact ⟨_, (decide (x53_5 < (t357.length : Int))), (by first | rfl | (simp; done) | (simp [*]; done) | (simp [bne]; done)), H', ⟨by have := HJ22.out; have := HJ77.out; have := HJ89.out; have := HJ98.out; have := HK5.out; first | omega | exact Nat.le_refl _⟩, ⟨by (with_reducible repeat (first | apply Kd.S_alloc | apply Kd.S_drewN | apply Kd.S_drew)); exact HO_4.out⟩, ⟨by (with_reducible repeat (first | apply Kd.R_alloc | apply Kd.R_drewN | apply Kd.R_drew)); exact HO_5.out⟩, ⟨by (with_reducible repeat (first | apply Kd.R_alloc | apply Kd.R_drewN | apply Kd.R_drew)); exact HO_6.out⟩, ⟨Sq.B HB⟩⟩
                 case rest =>
                  clear HC124; try clear hx4; try clear hx42; try clear hx426_0; try clear hx426_1
                  obtain ⟨kq, x361_123, rfl, HA, HJ123, HO_4, HO_5, HO_6, HB⟩ := hcut
                  cases kq with
                  | zero => exact absurd HA.out (by simp [laws_FnCoins.j7])
                  | succ kj123 =>
                   have H := HA.out
                   clear HA
                   simp only [laws_FnCoins.j7] at H
                   by_cases c127 : x361_123 = true
                   rotate_left
                   ·replace c127 := Bool.eq_false_iff.mpr c127
                    subst c127
                    rw [if_neg (show ¬ (false = true) by decide)] at H
                    as_aux_lemma =>
                     obtain rfl := Option.some.inj H
                     go_wp2
                     go_ret
                     exact ⟨by first | rfl | (simp [errW_none, errW_some] <;> rfl) | (simp [*, errW_none, errW_some] <;> rfl), Sq.B HB⟩

                   subst c127
                   rw [if_pos rfl] at H
                   by_cases c128 : 0 ≤ x53_5
                   rotate_left
                   ·rw [if_neg c128] at H
                    exact absurd H (by simp)
                   rw [if_pos c128] at H
                   have c128b0 : decide (0 ≤ x53_5) = true := decide_eq_true c128
                   clear c128
                   by_cases c129 : x53_5 < (t357.length : Int)
                   rotate_left
                   ·rw [if_neg c129] at H
                    exact absurd H (by simp)
                   rw [if_pos c129] at H
                   have c129b0 : decide (x53_5 < (t357.length : Int)) = true := decide_eq_true c129
                   clear c129
                   replace H := Option.bind_eq_some_iff.mp H
                   obtain ⟨⟨t431, t432⟩, A1300, H⟩ := H
                   try dsimp only at H
                   have A130 := Aside0.mk A1300
                   clear A1300
                   by_cases c131 : t432 = true
                   rotate_left
                   ·replace c131 := Bool.eq_false_iff.mpr c131
                    subst c131
                    rw [if_neg (show ¬ (false = true) by decide)] at H
                    obtain rfl := Option.some.inj H
                    cases hr
                   subst c131
                   rw [if_pos rfl] at H
                   replace H := Option.bind_eq_some_iff.mp H
                   obtain ⟨t435, A1320, H⟩ := H
                   try dsimp only at H
                   have A132 := Aside0.mk A1320
                   clear A1320
                   by_cases c133 : t435 = true
                   rotate_left
                   ·replace c133 := Bool.eq_false_iff.mpr c133
                    subst c133
                    rw [if_neg (show ¬ (false = true) by decide)] at H
                    obtain rfl := Option.some.inj H
                    cases hr
                   subst c133
                   rw [if_pos rfl] at H
                   as_aux_lemma =>
                    have H' := Aside0.mk H
                    clear H
                    try go_wp2
                    have n0_ := Aside0.mk (Kd.S_drew HO_4.out)
                    have n1_ := Aside0.mk (Kd.R_drew HO_5.out)
                    have n2_ := Aside0.mk (Kd.R_drew HO_6.out)
                    have n3_ := Aside0.mk (below_drew1 HB.out)
                    clear HO_4; clear HO_5; clear HO_6; clear HB
                    have HO_4 := n0_
                    have HO_5 := n1_
                    have HO_6 := n2_
                    have HB := n3_
                    clear n0_ n1_ n2_ n3_
                    obtain ⟨Ao135, co135, eo135⟩ := Kd.R_slice HO_6.out
                    (first | subst eo135 | (injection eo135 with f1_ f2_ f3_; have f4_ := f1_.symm; have f5_ := f3_.symm; clear f1_ f2_ f3_; subst f4_; subst f5_))
                    have p429 : 0 ≤ (x53_5 : Int) := of_decide_eq_true (by first | (with_reducible assumption) | assumption)
                    have q429 : x53_5 < (t357.length : Int) := of_decide_eq_true (by first | (with_reducible assumption) | assumption)
                    obtain ⟨ad429, e429, hx429_0, hx429_1⟩ := at_T47 (Kd.R_reads' HO_6.out).2.2 x53_5 p429 q429
                    cases e429
                    replace p429 := eq_true p429
                    replace q429 := eq_true q429
                    have p430 : 0 ≤ (x53_5 : Int) := of_decide_eq_true (by first | (with_reducible assumption) | assumption)
                    have q430 : x53_5 < (t357.length : Int) := of_decide_eq_true (by first | (with_reducible assumption) | assumption)
                    obtain ⟨ad430, e430, hx430_0, hx430_1⟩ := at_T47 (Kd.R_reads' HO_6.out).2.2 x53_5 p430 q430
                    obtain rfl : ad429 = ad430 := (by injection e430)
                    replace p430 := eq_true p430
                    replace q430 := eq_true q430
                    refine start_ (n := 19) (S := fun w' => w'.cell? (ad429.add ((x53_5).toNat * 2)) = some (.int .i64 ((rd_T47 t357 x53_5).f0)) ∧ w'.cell? ⟨(ad429.add ((x53_5).toNat * 2)).block, (ad429.add ((x53_5).toNat * 2)).off + 1, none⟩ = some (.int .i64 ((rd_T47 t357 x53_5).f1)) ∧ w'.cell? (ad429.add ((x53_5).toNat * 2)) = some (.int .i64 ((rd_T47 t357 x53_5).f0)) ∧ w'.cell? ⟨(ad429.add ((x53_5).toNat * 2)).block, (ad429.add ((x53_5).toNat * 2)).off + 1, none⟩ = some (.int .i64 ((rd_T47 t357 x53_5).f1))) (ds := []) #[false, false, false, false, false, false, false, false, false, false, false, false, false, false, false, false, false, false, false] (by kernel_rfl) rfl rfl ⟨hx429_0, hx429_1, hx430_0, hx430_1⟩ (fun hHeld => ?_); refine with_tabW laws_FnCoins.tab47 laws_FnCoins.bits47 (fun HT_ HW_ => ?_)
                    generalize wc.drew = w134 at HO_4 HO_5 HO_6 HB hx429_0 hx429_1 hx430_0 hx430_1 hHeld ⊢
                    refine pure_ (i := 0) (N := some 365) (v := ?_) (a' := ?_) #[true, false, false, false, false, false, false, false, false, false, false, false, false, false, false, false, false, false, false] rfl rfl (any_of HT_.out (by kernel_rfl)) (fun _ _ _ h => h) (Or.inl ⟨by rfl, ?_⟩) ?_ ?_
                    rotate_left
                    ·intro w'
                     go_simp
                     with_reducible rfl
                    rotate_left
                    ·simp only [Act.put, List.setIfInBounds_toArray, List.set_cons_zero, List.set_cons_succ, i64_w, i32_w]
                     rfl
                    refine pure_ (i := 1) (N := some 366) (v := ?_) (a' := ?_) #[true, true, false, false, false, false, false, false, false, false, false, false, false, false, false, false, false, false, false] rfl rfl (any_of HT_.out (by kernel_rfl)) (fun _ _ _ h => h) (Or.inl ⟨by rfl, ?_⟩) ?_ ?_
                    rotate_left
                    ·intro w'
                     go_simp
                     with_reducible rfl
                    rotate_left
                    ·simp only [Act.put, List.setIfInBounds_toArray, List.set_cons_zero, List.set_cons_succ, i64_w, i32_w]
                     rfl
                    refine pure_ (i := 2) (N := some 367) (v := ?_) (a' := ?_) #[true, true, true, false, false, false, false, false, false, false, false, false, false, false, false, false, false, false, false] rfl rfl (any_of HT_.out (by kernel_rfl)) (fun _ _ _ h => h) (Or.inl ⟨by rfl, ?_⟩) ?_ ?_
                    rotate_left
                    ·intro w'
                     go_simp
                     with_reducible rfl
                    rotate_left
                    ·simp only [Act.put, List.setIfInBounds_toArray, List.set_cons_zero, List.set_cons_succ, i64_w, i32_w]
                     rfl
                    refine pure_ (i := 3) (N := some 368) (v := ?_) (a' := ?_) #[true, true, true, true, false, false, false, false, false, false, false, false, false, false, false, false, false, false, false] rfl rfl (any_of HT_.out (by kernel_rfl)) (fun _ _ _ h => h) (Or.inl ⟨by rfl, ?_⟩) ?_ ?_
                    rotate_left
                    ·intro w'
                     go_simp
                     with_reducible rfl
                    rotate_left
                    ·simp only [Act.put, List.setIfInBounds_toArray, List.set_cons_zero, List.set_cons_succ, i64_w, i32_w]
                     rfl
                    refine pure_ (i := 4) (N := some 369) (v := ?_) (a' := ?_) #[true, true, true, true, true, false, false, false, false, false, false, false, false, false, false, false, false, false, false] rfl rfl (any_of HT_.out (by kernel_rfl)) (fun _ _ _ h => h) (Or.inl ⟨by rfl, ?_⟩) ?_ ?_
                    rotate_left
                    ·intro w'
                     go_simp
                     with_reducible rfl
                    rotate_left
                    ·simp only [Act.put, List.setIfInBounds_toArray, List.set_cons_zero, List.set_cons_succ, i64_w, i32_w]
                     rfl
                    refine pure_ (i := 5) (N := some 370) (v := ?_) (a' := ?_) #[true, true, true, true, true, true, false, false, false, false, false, false, false, false, false, false, false, false, false] rfl rfl (any_of HT_.out (by kernel_rfl)) (fun _ _ _ h => h) (Or.inl ⟨by rfl, ?_⟩) ?_ ?_
                    rotate_left
                    ·intro w'
                     go_simp
                     with_reducible rfl
                    rotate_left
                    ·simp only [Act.put, List.setIfInBounds_toArray, List.set_cons_zero, List.set_cons_succ, i64_w, i32_w]
                     rfl
                    refine pure_ (i := 7) (N := some 372) (v := ?_) (a' := ?_) #[true, true, true, true, true, true, false, true, false, false, false, false, false, false, false, false, false, false, false] rfl rfl (any_of HT_.out (by kernel_rfl)) (fun _ _ _ h => h) (Or.inl ⟨by rfl, ?_⟩) ?_ ?_
                    rotate_left
                    ·intro w'
                     go_simp
                     with_reducible rfl
                    rotate_left
                    ·simp only [Act.put, List.setIfInBounds_toArray, List.set_cons_zero, List.set_cons_succ, i64_w, i32_w]
                     rfl
                    refine pure_ (i := 8) (N := some 373) (v := ?_) (a' := ?_) #[true, true, true, true, true, true, false, true, true, false, false, false, false, false, false, false, false, false, false] rfl rfl (any_of HT_.out (by kernel_rfl)) (fun _ _ _ h => h) (Or.inl ⟨by rfl, ?_⟩) ?_ ?_
                    rotate_left
                    ·intro w'
                     go_simp
                     with_reducible rfl
                    rotate_left
                    ·simp only [Act.put, List.setIfInBounds_toArray, List.set_cons_zero, List.set_cons_succ, i64_w, i32_w]
                     rfl
                    refine pure_ (i := 9) (N := some 374) (v := ?_) (a' := ?_) #[true, true, true, true, true, true, false, true, true, true, false, false, false, false, false, false, false, false, false] rfl rfl (any_of HT_.out (by kernel_rfl)) (fun _ _ _ h => h) (Or.inl ⟨by rfl, ?_⟩) ?_ ?_
                    rotate_left
                    ·intro w'
                     go_simp
                     with_reducible rfl
                    rotate_left
                    ·simp only [Act.put, List.setIfInBounds_toArray, List.set_cons_zero, List.set_cons_succ, i64_w, i32_w]
                     rfl
                    refine pure_ (i := 10) (N := some 375) (v := ?_) (a' := ?_) #[true, true, true, true, true, true, false, true, true, true, true, false, false, false, false, false, false, false, false] rfl rfl (any_of HT_.out (by kernel_rfl)) (fun _ _ _ h => h) (Or.inl ⟨by rfl, ?_⟩) ?_ ?_
                    rotate_left
                    ·intro w'
                     go_simp
                     with_reducible rfl
                    rotate_left
                    ·simp only [Act.put, List.setIfInBounds_toArray, List.set_cons_zero, List.set_cons_succ, i64_w, i32_w]
                     rfl
                    refine take_ (i := 6) (N := some 371) (v := ?_) (a' := ?_) #[true, true, true, true, true, true, true, true, true, true, true, false, false, false, false, false, false, false, false] rfl rfl (take_ofW HT_.out HW_.out (by kernel_rfl)) (fun _ _ _ h => h) (Or.inl ⟨by rfl, ?_⟩) hHeld ?_ ?_
                    rotate_left
                    ·rintro w' ⟨s0, s1, s2, s3⟩
                     go_simp
                     with_reducible rfl
                    rotate_left
                    ·simp only [Act.put, List.setIfInBounds_toArray, List.set_cons_zero, List.set_cons_succ, i64_w, i32_w]
                     rfl
                    refine take_ (i := 11) (N := some 376) (v := ?_) (a' := ?_) #[true, true, true, true, true, true, true, true, true, true, true, true, false, false, false, false, false, false, false] rfl rfl (take_ofW HT_.out HW_.out (by kernel_rfl)) (fun _ _ _ h => h) (Or.inl ⟨by rfl, ?_⟩) hHeld ?_ ?_
                    rotate_left
                    ·rintro w' ⟨s0, s1, s2, s3⟩
                     go_simp
                     with_reducible rfl
                    rotate_left
                    ·simp only [Act.put, List.setIfInBounds_toArray, List.set_cons_zero, List.set_cons_succ, i64_w, i32_w]
                     rfl
                    refine pure_ (i := 12) (N := some 377) (v := ?_) (a' := ?_) #[true, true, true, true, true, true, true, true, true, true, true, true, true, false, false, false, false, false, false] rfl rfl (any_of HT_.out (by kernel_rfl)) (fun _ _ _ h => h) (Or.inl ⟨by rfl, ?_⟩) ?_ ?_
                    rotate_left
                    ·intro w'
                     go_simp
                     with_reducible rfl
                    rotate_left
                    ·simp only [Act.put, List.setIfInBounds_toArray, List.set_cons_zero, List.set_cons_succ, i64_w, i32_w]
                     rfl
                    refine one_ (i := 13) (N := some 378) #[true, true, true, true, true, true, true, true, true, true, true, true, true, true, false, false, false, false, false] rfl rfl (one_of HT_.out (by kernel_rfl)) (by decide) (fun K hK => ?_)
                    refine goes_ Try.func19 (by kernel_rfl) rfl #[.int .i64 t350, .slice Ao25 t351.length co25, .int .i64 ((rd_T47 t357 x53_5).f0), .bool (((rd_T47 t357 x53_5).f1) == 1)] (by rfl) rfl rfl (by (try simp only [List.map_toArray, List.map_cons, List.map_nil]); first | done | rfl | (simp only [List.length_drop, List.length_take]; rfl)) ?_
                    with_reducible refine (impl_CoinOutcome.calls kj123 t350 _ _ t351 ((rd_T47 t357 x53_5).f0) (((rd_T47 t357 x53_5).f1) == 1) t431 true _ ?side1 ?side2 A130.out).mono ?_
                    (case side1 => exact Sq.C ((Kd.S_reads' HO_4.out).2.2))
                    (case side2 => exact (Kd.S_reads' HO_4.out).2.1)
                    rintro e w136 ⟨v433, rfl, ho0, hb⟩
                    have HS0_ := (hb.cell (World.block_lt_of_cell? _ _ (hHeld.1))).trans (hHeld.1)
                    have HS1_ := (hb.cell (World.block_lt_of_cell? _ _ (hHeld.2.1))).trans (hHeld.2.1)
                    have HS2_ := (hb.cell (World.block_lt_of_cell? _ _ (hHeld.2.2.1))).trans (hHeld.2.2.1)
                    have HS3_ := (hb.cell (World.block_lt_of_cell? _ _ (hHeld.2.2.2))).trans (hHeld.2.2.2)
                    refine ⟨_, rfl, ?_⟩
                    have n0_ := Aside0.mk (Kd.S_elder' (by (with_reducible repeat (first | apply Kd.S_alloc | apply Kd.S_drewN | apply Kd.S_drew)); exact HO_4.out) (Kd.R_base ho0) hb)
                    have n1_ := Sq.E HO_5 ho0 hb
                    have n2_ := Sq.T HO_6 hb
                    have n3_ := Sq.L (Sq.N ho0 HO_5) HB
                    have n4_ := Sq.S HB hb
                    clear HO_4; clear HO_5; clear HO_6; clear HB
                    have HO_4 := n0_
                    have HO_5 := n1_
                    have HO_6 := n2_
                    have HO434 := n3_
                    have HB := n4_
                    clear n0_ n1_ n2_ n3_ n4_
                    (try clear hb)
                    (try clear hb2)
                    (try clear hk)
                    (try clear hi)
                    (try clear ho0)
                    refine hK.out _ _ ⟨HS0_, HS1_, HS2_, HS3_⟩ (fun hHeld => ?_)
                    clear hK K
                    refine norm_ (a' := ?_) ?_ ?_
                    rotate_left
                    ·show Act.put _ (some 378) _ = _
                     simp only [Act.put, List.setIfInBounds_toArray, List.set_cons_zero, List.set_cons_succ, i64_w, i32_w]
                     rfl
                    refine pure_ (i := 14) (N := some 364) (v := ?_) (a' := ?_) #[true, true, true, true, true, true, true, true, true, true, true, true, true, true, true, false, false, false, false] rfl rfl (any_of HT_.out (by kernel_rfl)) (fun _ _ _ h => h) (Or.inl ⟨by rfl, ?_⟩) ?_ ?_
                    rotate_left
                    ·intro w'
                     go_simp
                     with_reducible rfl
                    rotate_left
                    ·simp only [Act.put, List.setIfInBounds_toArray, List.set_cons_zero, List.set_cons_succ, i64_w, i32_w]
                     rfl
                    refine pure_ (i := 15) (N := some 379) (v := ?_) (a' := ?_) #[true, true, true, true, true, true, true, true, true, true, true, true, true, true, true, true, false, false, false] rfl rfl (any_of HT_.out (by kernel_rfl)) (fun _ _ _ h => h) (Or.inl ⟨by rfl, ?_⟩) ?_ ?_
                    rotate_left
                    ·intro w'
                     go_simp
                     with_reducible rfl
                    rotate_left
                    ·simp only [Act.put, List.setIfInBounds_toArray, List.set_cons_zero, List.set_cons_succ, i64_w, i32_w]
                     rfl
                    refine pure_ (i := 16) (N := some 380) (v := ?_) (a' := ?_) #[true, true, true, true, true, true, true, true, true, true, true, true, true, true, true, true, true, false, false] rfl rfl (any_of HT_.out (by kernel_rfl)) (fun _ _ _ h => h) (Or.inl ⟨by rfl, ?_⟩) ?_ ?_
                    rotate_left
                    ·intro w'
                     go_simp
                     with_reducible rfl
                    rotate_left
                    ·simp only [Act.put, List.setIfInBounds_toArray, List.set_cons_zero, List.set_cons_succ, i64_w, i32_w]
                     rfl
                    refine pure_ (i := 17) (N := some 54) (v := ?_) (a' := ?_) #[true, true, true, true, true, true, true, true, true, true, true, true, true, true, true, true, true, true, false] rfl rfl (any_of HT_.out (by kernel_rfl)) (fun _ _ _ h => h) (Or.inl ⟨by rfl, ?_⟩) ?_ ?_
                    rotate_left
                    ·intro w'
                     go_simp
                     with_reducible rfl
                    rotate_left
                    ·simp only [Act.put, List.setIfInBounds_toArray, List.set_cons_zero, List.set_cons_succ, i64_w, i32_w]
                     rfl
                    refine pure_ (i := 18) (N := some 55) (v := ?_) (a' := ?_) #[true, true, true, true, true, true, true, true, true, true, true, true, true, true, true, true, true, true, true] rfl rfl (any_of HT_.out (by kernel_rfl)) (fun _ _ _ h => h) (Or.inl ⟨by rfl, ?_⟩) ?_ ?_
                    rotate_left
                    ·intro w'
                     go_simp
                     with_reducible rfl
                    rotate_left
                    ·simp only [Act.put, List.setIfInBounds_toArray, List.set_cons_zero, List.set_cons_succ, i64_w, i32_w]
                     rfl
                    refine done_ (done_of HT_.out (by kernel_rfl)) ?_
                    obtain ⟨Ao137, co137, rfl⟩ := Kd.R_slice HO434.out
                    try go_wp2_with (first | (go_at_call 26; (with_reducible refine (laws_vInts.calls kj123 _ _ t431 _ _ t352 true _ (Sq.r HO434) (Sq.n HO434) (Sq.r HO_5) (Sq.n HO_5) A132.out).mono ?_); rintro e w' ⟨rfl, ⟨nd, rfl⟩⟩))
                    go_roundg kj123
                    case measure => have := HJ22.out; have := HJ77.out; have := HJ89.out; have := HJ98.out; have := HK5.out; have := HJ123.out; omega
                    case rel => exact ⟨(wrap64 (x53_5 + 1)), (by first | rfl | (simp; done) | (simp [*]; done) | (simp [bne]; done)), H', ⟨by have := HJ22.out; have := HJ77.out; have := HJ89.out; have := HJ98.out; have := HK5.out; have := HJ123.out; omega⟩, ⟨by (with_reducible repeat (first | apply Kd.S_alloc | apply Kd.S_drewN | apply Kd.S_drew)); exact Kd.S_mono HO_4.out (fun _ hk => hk.1)⟩, ⟨Kd.R_mono (Sq.R HO_5) (fun _ hk => trivial)⟩, ⟨by (with_reducible repeat (first | apply Kd.R_alloc | apply Kd.R_drewN | apply Kd.R_drew)); exact HO_6.out⟩, ⟨Sq.B HB⟩⟩
theorem laws_FnCoins.walk (P : laws_FnCoins.Pure) (a0 : Option Addr) (len0 cap0 : Nat) (z0 : List Int) (w : World) (w0 : (a0 = none ∧ len0 = 0 ∧ cap0 = 0 ∧ z0 = []) ∨ ∃ x, a0 = some x ∧ len0 ≤ cap0 ∧ cap0 ≤ maxLen ∧ z0.length = cap0 ∧ (∀ i, i < z0.length → w.cell? (x.add i) = some (.int .u8 (z0.getD i 0))) ∧ ∀ n ∈ z0, (Lit.int .u8 n).wf = true) (y0 : len0 * 1 ≤ 140737488351232) :
  Calls Try.prog 3 #[.slice a0 len0 cap0] w fun e w' => e = .returned (.bool true) ∧ Below w.heap.size w w' := by
 obtain ⟨l0, rfl, hr0, hm0, hw0, hc0⟩ := ReadsInt.ofRowC w0
 obtain ⟨k, h⟩ := P l0 hm0 y0 hw0
 refine (laws_FnCoins.calls k _ _ l0 true w (Kd.C_of_reads (d := (0 : Int)) (h1 := fun _ => rfl) hr0) hc0 h rfl).mono ?_
 rintro e w' ⟨rfl, hd⟩
 exact ⟨rfl, hd⟩

end Go.Proofs.Ytgnmomdgfamhnaa.PFnCoins
