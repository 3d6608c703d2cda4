-- Made by wip/pr.py of this repo over the kit's print (some contracts by hand).
import Derived.Test.YthgfndbbbhbkeaaDoorPFnStringsx0
import Derived.Test.YthgfndbbbhbkeaaDoorPFnStringsx1
import Derived.Test.YthgfndbbbhbkeaaDoorPFnStringsx2
import Derived.Test.YthgfndbbbhbkeaaDoorPFnStringsx3
import Derived.Test.YthgfndbbbhbkeaaDoorPFnStringsx4
namespace Go.Proofs.YthgfndbbbhbkeaaDoor.PFnStrings
open Go.RowKit Go.Proofs.YthgfndbbbhbkeaaDoorW.PrintWords Go.Proofs.YthgfndbbbhbkeaaDoorW.PrintLast Go.Proofs.YthgfndbbbhbkeaaDoorW.PrintMore
attribute [local go_sem] max2_int min2_int max_two min_two max_three min_three max_four min_four   -- for this text's walks alone
set_option linter.unusedVariables false
set_option linter.unusedSimpArgs false
set_option maxHeartbeats 8000000 in
set_option maxRecDepth 100000 in
theorem laws_FnStrings.calls (k : Nat) (A0 : Option Addr) (c0 : Nat) (l0 : List Int) (r : Bool) (w : World) (hr0 : Kd.C (Kd.int .u8) w A0 l0.length l0) (hc0 : l0.length ≤ c0) (h : laws_FnStrings.f k l0 = some r) (hT : Tabs w) :
    Calls Tryd.prog 4 #[.slice A0 l0.length c0] w fun e w' => e = .returned (.bool r) ∧ Below w.heap.size w w' := by
  have HT := Aside0.mk hT
  clear hT
  have HR0 := Aside0.mk hr0
  have HC0 := Aside0.mk hc0
  clear hr0 hc0
  have HB := Aside0.mk (Below.refl w.heap.size w)
  have H : ((laws_vBig.f l0).bind fun t193 => (if t193 = true then (some true) else ((spec_DrawFormatInt.f l0).bind fun t194 => ((impl_FormatInt.f t194).bind fun bt195 => ((spec_FormatInt.f k t194).bind fun bt197 => ((spec_DrawParseInt.f k l0).bind fun t199 => ((impl_ParseInt.f t199).bind fun bt200 => ((spec_ParseInt.f k t199).bind fun bt202 => ((spec_DrawAppendChecksum.f l0).bind fun t204 => ((impl_AppendChecksum.f k t204).bind fun bt205 => ((spec_AppendChecksum.f k t204).bind fun bt207 => (if bt195.1.toList = bt197.1.toList then (if (bt195.2 != bt197.2) = true then (laws_FnStrings.j0 k l0 t194 bt195.1 bt195.2 t204 bt205.1 bt205.2 true) else (if bt200.1 = bt202.1 then (if (bt200.2 != bt202.2) = true then (laws_FnStrings.j0 k l0 t194 bt195.1 bt195.2 t204 bt205.1 bt205.2 true) else (if bt205.1.toList = bt207.1.toList then (laws_FnStrings.j0 k l0 t194 bt195.1 bt195.2 t204 bt205.1 bt205.2 (bt205.2 != bt207.2)) else (laws_FnStrings.j0 k l0 t194 bt195.1 bt195.2 t204 bt205.1 bt205.2 true))) else (laws_FnStrings.j0 k l0 t194 bt195.1 bt195.2 t204 bt205.1 bt205.2 true))) else (laws_FnStrings.j0 k l0 t194 bt195.1 bt195.2 t204 bt205.1 bt205.2 true))))))))))))) = some r := h
  clear h
  replace H := Option.bind_eq_some_iff.mp H
  obtain ⟨t193, A20, H⟩ := H
  replace H : (if t193 = true then (some true) else ((spec_DrawFormatInt.f l0).bind fun t194 => ((impl_FormatInt.f t194).bind fun bt195 => ((spec_FormatInt.f k t194).bind fun bt197 => ((spec_DrawParseInt.f k l0).bind fun t199 => ((impl_ParseInt.f t199).bind fun bt200 => ((spec_ParseInt.f k t199).bind fun bt202 => ((spec_DrawAppendChecksum.f l0).bind fun t204 => ((impl_AppendChecksum.f k t204).bind fun bt205 => ((spec_AppendChecksum.f k t204).bind fun bt207 => (if bt195.1.toList = bt197.1.toList then (if (bt195.2 != bt197.2) = true then (laws_FnStrings.j0 k l0 t194 bt195.1 bt195.2 t204 bt205.1 bt205.2 true) else (if bt200.1 = bt202.1 then (if (bt200.2 != bt202.2) = true then (laws_FnStrings.j0 k l0 t194 bt195.1 bt195.2 t204 bt205.1 bt205.2 true) else (if bt205.1.toList = bt207.1.toList then (laws_FnStrings.j0 k l0 t194 bt195.1 bt195.2 t204 bt205.1 bt205.2 (bt205.2 != bt207.2)) else (laws_FnStrings.j0 k l0 t194 bt195.1 bt195.2 t204 bt205.1 bt205.2 true))) else (laws_FnStrings.j0 k l0 t194 bt195.1 bt195.2 t204 bt205.1 bt205.2 true))) else (laws_FnStrings.j0 k l0 t194 bt195.1 bt195.2 t204 bt205.1 bt205.2 true)))))))))))) = some r := H
  have A2 := Aside0.mk A20
  clear A20
  by_cases c3 : t193 = true
  · subst c3
    have H1 : (some true) = some r := by rw [if_pos rfl] at H; exact H
    clear H
    have H := H1
    clear H1
    as_aux_lemma =>
      obtain rfl := Option.some.inj H
      go_enter Tryd.func4, Tryd.ntmps4
      go_wp2_with (first | ((with_reducible refine gate_callee (f := 5) rfl ?_); refine goesL_ (some 27) rfl rfl Tryd.func5 (by kernel_rfl) rfl #[.slice A0 l0.length c0] rfl (by (try simp only [List.map_toArray, List.map_cons, List.map_nil]); first | done | rfl | (simp only [List.length_drop, List.length_take]; rfl)) ?_; (with_reducible refine (laws_vBig.calls _ _ l0 true _ ?side1 ?side2 A2.out).mono ?_); (case side1 => repeat (first | exact HR0.out | (with_reducible refine Kd.C_alloc ?_ _) | (with_reducible refine Kd.C_drewN ?_ _) | (with_reducible refine Kd.C_drew ?_))); (case side2 => exact HC0.out); rintro e w' ⟨rfl, ⟨nd, rfl⟩⟩; refine ⟨_, rfl, ?_⟩))
      go_ret
      exact ⟨by first | rfl | (simp [errW_none, errW_some] <;> rfl) | (simp [*, errW_none, errW_some] <;> rfl), by repeat (first | (with_reducible first | exact HB.out | apply below_alloc | apply pw_below_drewN | apply below_drew1) | exact HB.out)⟩
  · replace c3 := Bool.eq_false_iff.mpr c3
    subst c3
    have H1 : ((spec_DrawFormatInt.f l0).bind fun t194 => ((impl_FormatInt.f t194).bind fun bt195 => ((spec_FormatInt.f k t194).bind fun bt197 => ((spec_DrawParseInt.f k l0).bind fun t199 => ((impl_ParseInt.f t199).bind fun bt200 => ((spec_ParseInt.f k t199).bind fun bt202 => ((spec_DrawAppendChecksum.f l0).bind fun t204 => ((impl_AppendChecksum.f k t204).bind fun bt205 => ((spec_AppendChecksum.f k t204).bind fun bt207 => (if bt195.1.toList = bt197.1.toList then (if (bt195.2 != bt197.2) = true then (laws_FnStrings.j0 k l0 t194 bt195.1 bt195.2 t204 bt205.1 bt205.2 true) else (if bt200.1 = bt202.1 then (if (bt200.2 != bt202.2) = true then (laws_FnStrings.j0 k l0 t194 bt195.1 bt195.2 t204 bt205.1 bt205.2 true) else (if bt205.1.toList = bt207.1.toList then (laws_FnStrings.j0 k l0 t194 bt195.1 bt195.2 t204 bt205.1 bt205.2 (bt205.2 != bt207.2)) else (laws_FnStrings.j0 k l0 t194 bt195.1 bt195.2 t204 bt205.1 bt205.2 true))) else (laws_FnStrings.j0 k l0 t194 bt195.1 bt195.2 t204 bt205.1 bt205.2 true))) else (laws_FnStrings.j0 k l0 t194 bt195.1 bt195.2 t204 bt205.1 bt205.2 true))))))))))) = some r := by rw [if_neg (show ¬ (false = true) by decide)] at H; exact H
    clear H
    have H := H1
    clear H1
    replace H := Option.bind_eq_some_iff.mp H
    obtain ⟨t194, A40, H⟩ := H
    replace H : ((impl_FormatInt.f t194).bind fun bt195 => ((spec_FormatInt.f k t194).bind fun bt197 => ((spec_DrawParseInt.f k l0).bind fun t199 => ((impl_ParseInt.f t199).bind fun bt200 => ((spec_ParseInt.f k t199).bind fun bt202 => ((spec_DrawAppendChecksum.f l0).bind fun t204 => ((impl_AppendChecksum.f k t204).bind fun bt205 => ((spec_AppendChecksum.f k t204).bind fun bt207 => (if bt195.1.toList = bt197.1.toList then (if (bt195.2 != bt197.2) = true then (laws_FnStrings.j0 k l0 t194 bt195.1 bt195.2 t204 bt205.1 bt205.2 true) else (if bt200.1 = bt202.1 then (if (bt200.2 != bt202.2) = true then (laws_FnStrings.j0 k l0 t194 bt195.1 bt195.2 t204 bt205.1 bt205.2 true) else (if bt205.1.toList = bt207.1.toList then (laws_FnStrings.j0 k l0 t194 bt195.1 bt195.2 t204 bt205.1 bt205.2 (bt205.2 != bt207.2)) else (laws_FnStrings.j0 k l0 t194 bt195.1 bt195.2 t204 bt205.1 bt205.2 true))) else (laws_FnStrings.j0 k l0 t194 bt195.1 bt195.2 t204 bt205.1 bt205.2 true))) else (laws_FnStrings.j0 k l0 t194 bt195.1 bt195.2 t204 bt205.1 bt205.2 true)))))))))) = some r := H
    have A4 := Aside0.mk A40
    clear A40
    replace H := Option.bind_eq_some_iff.mp H
    obtain ⟨⟨t195, t196⟩, A50, H⟩ := H
    replace H : ((spec_FormatInt.f k t194).bind fun bt197 => ((spec_DrawParseInt.f k l0).bind fun t199 => ((impl_ParseInt.f t199).bind fun bt200 => ((spec_ParseInt.f k t199).bind fun bt202 => ((spec_DrawAppendChecksum.f l0).bind fun t204 => ((impl_AppendChecksum.f k t204).bind fun bt205 => ((spec_AppendChecksum.f k t204).bind fun bt207 => (if t195.toList = bt197.1.toList then (if (t196 != bt197.2) = true then (laws_FnStrings.j0 k l0 t194 t195 t196 t204 bt205.1 bt205.2 true) else (if bt200.1 = bt202.1 then (if (bt200.2 != bt202.2) = true then (laws_FnStrings.j0 k l0 t194 t195 t196 t204 bt205.1 bt205.2 true) else (if bt205.1.toList = bt207.1.toList then (laws_FnStrings.j0 k l0 t194 t195 t196 t204 bt205.1 bt205.2 (bt205.2 != bt207.2)) else (laws_FnStrings.j0 k l0 t194 t195 t196 t204 bt205.1 bt205.2 true))) else (laws_FnStrings.j0 k l0 t194 t195 t196 t204 bt205.1 bt205.2 true))) else (laws_FnStrings.j0 k l0 t194 t195 t196 t204 bt205.1 bt205.2 true))))))))) = some r := H
    have A5 := Aside0.mk A50
    clear A50
    replace H := Option.bind_eq_some_iff.mp H
    obtain ⟨⟨t197, t198⟩, A60, H⟩ := H
    replace H : ((spec_DrawParseInt.f k l0).bind fun t199 => ((impl_ParseInt.f t199).bind fun bt200 => ((spec_ParseInt.f k t199).bind fun bt202 => ((spec_DrawAppendChecksum.f l0).bind fun t204 => ((impl_AppendChecksum.f k t204).bind fun bt205 => ((spec_AppendChecksum.f k t204).bind fun bt207 => (if t195.toList = t197.toList then (if (t196 != t198) = true then (laws_FnStrings.j0 k l0 t194 t195 t196 t204 bt205.1 bt205.2 true) else (if bt200.1 = bt202.1 then (if (bt200.2 != bt202.2) = true then (laws_FnStrings.j0 k l0 t194 t195 t196 t204 bt205.1 bt205.2 true) else (if bt205.1.toList = bt207.1.toList then (laws_FnStrings.j0 k l0 t194 t195 t196 t204 bt205.1 bt205.2 (bt205.2 != bt207.2)) else (laws_FnStrings.j0 k l0 t194 t195 t196 t204 bt205.1 bt205.2 true))) else (laws_FnStrings.j0 k l0 t194 t195 t196 t204 bt205.1 bt205.2 true))) else (laws_FnStrings.j0 k l0 t194 t195 t196 t204 bt205.1 bt205.2 true)))))))) = some r := H
    have A6 := Aside0.mk A60
    clear A60
    replace H := Option.bind_eq_some_iff.mp H
    obtain ⟨t199, A70, H⟩ := H
    replace H : ((impl_ParseInt.f t199).bind fun bt200 => ((spec_ParseInt.f k t199).bind fun bt202 => ((spec_DrawAppendChecksum.f l0).bind fun t204 => ((impl_AppendChecksum.f k t204).bind fun bt205 => ((spec_AppendChecksum.f k t204).bind fun bt207 => (if t195.toList = t197.toList then (if (t196 != t198) = true then (laws_FnStrings.j0 k l0 t194 t195 t196 t204 bt205.1 bt205.2 true) else (if bt200.1 = bt202.1 then (if (bt200.2 != bt202.2) = true then (laws_FnStrings.j0 k l0 t194 t195 t196 t204 bt205.1 bt205.2 true) else (if bt205.1.toList = bt207.1.toList then (laws_FnStrings.j0 k l0 t194 t195 t196 t204 bt205.1 bt205.2 (bt205.2 != bt207.2)) else (laws_FnStrings.j0 k l0 t194 t195 t196 t204 bt205.1 bt205.2 true))) else (laws_FnStrings.j0 k l0 t194 t195 t196 t204 bt205.1 bt205.2 true))) else (laws_FnStrings.j0 k l0 t194 t195 t196 t204 bt205.1 bt205.2 true))))))) = some r := H
    have A7 := Aside0.mk A70
    clear A70
    replace H := Option.bind_eq_some_iff.mp H
    obtain ⟨⟨t200, t201⟩, A80, H⟩ := H
    replace H : ((spec_ParseInt.f k t199).bind fun bt202 => ((spec_DrawAppendChecksum.f l0).bind fun t204 => ((impl_AppendChecksum.f k t204).bind fun bt205 => ((spec_AppendChecksum.f k t204).bind fun bt207 => (if t195.toList = t197.toList then (if (t196 != t198) = true then (laws_FnStrings.j0 k l0 t194 t195 t196 t204 bt205.1 bt205.2 true) else (if t200 = bt202.1 then (if (t201 != bt202.2) = true then (laws_FnStrings.j0 k l0 t194 t195 t196 t204 bt205.1 bt205.2 true) else (if bt205.1.toList = bt207.1.toList then (laws_FnStrings.j0 k l0 t194 t195 t196 t204 bt205.1 bt205.2 (bt205.2 != bt207.2)) else (laws_FnStrings.j0 k l0 t194 t195 t196 t204 bt205.1 bt205.2 true))) else (laws_FnStrings.j0 k l0 t194 t195 t196 t204 bt205.1 bt205.2 true))) else (laws_FnStrings.j0 k l0 t194 t195 t196 t204 bt205.1 bt205.2 true)))))) = some r := H
    have A8 := Aside0.mk A80
    clear A80
    replace H := Option.bind_eq_some_iff.mp H
    obtain ⟨⟨t202, t203⟩, A90, H⟩ := H
    replace H : ((spec_DrawAppendChecksum.f l0).bind fun t204 => ((impl_AppendChecksum.f k t204).bind fun bt205 => ((spec_AppendChecksum.f k t204).bind fun bt207 => (if t195.toList = t197.toList then (if (t196 != t198) = true then (laws_FnStrings.j0 k l0 t194 t195 t196 t204 bt205.1 bt205.2 true) else (if t200 = t202 then (if (t201 != t203) = true then (laws_FnStrings.j0 k l0 t194 t195 t196 t204 bt205.1 bt205.2 true) else (if bt205.1.toList = bt207.1.toList then (laws_FnStrings.j0 k l0 t194 t195 t196 t204 bt205.1 bt205.2 (bt205.2 != bt207.2)) else (laws_FnStrings.j0 k l0 t194 t195 t196 t204 bt205.1 bt205.2 true))) else (laws_FnStrings.j0 k l0 t194 t195 t196 t204 bt205.1 bt205.2 true))) else (laws_FnStrings.j0 k l0 t194 t195 t196 t204 bt205.1 bt205.2 true))))) = some r := H
    have A9 := Aside0.mk A90
    clear A90
    replace H := Option.bind_eq_some_iff.mp H
    obtain ⟨t204, A100, H⟩ := H
    replace H : ((impl_AppendChecksum.f k t204).bind fun bt205 => ((spec_AppendChecksum.f k t204).bind fun bt207 => (if t195.toList = t197.toList then (if (t196 != t198) = true then (laws_FnStrings.j0 k l0 t194 t195 t196 t204 bt205.1 bt205.2 true) else (if t200 = t202 then (if (t201 != t203) = true then (laws_FnStrings.j0 k l0 t194 t195 t196 t204 bt205.1 bt205.2 true) else (if bt205.1.toList = bt207.1.toList then (laws_FnStrings.j0 k l0 t194 t195 t196 t204 bt205.1 bt205.2 (bt205.2 != bt207.2)) else (laws_FnStrings.j0 k l0 t194 t195 t196 t204 bt205.1 bt205.2 true))) else (laws_FnStrings.j0 k l0 t194 t195 t196 t204 bt205.1 bt205.2 true))) else (laws_FnStrings.j0 k l0 t194 t195 t196 t204 bt205.1 bt205.2 true)))) = some r := H
    have A10 := Aside0.mk A100
    clear A100
    replace H := Option.bind_eq_some_iff.mp H
    obtain ⟨⟨t205, t206⟩, A110, H⟩ := H
    replace H : ((spec_AppendChecksum.f k t204).bind fun bt207 => (if t195.toList = t197.toList then (if (t196 != t198) = true then (laws_FnStrings.j0 k l0 t194 t195 t196 t204 t205 t206 true) else (if t200 = t202 then (if (t201 != t203) = true then (laws_FnStrings.j0 k l0 t194 t195 t196 t204 t205 t206 true) else (if t205.toList = bt207.1.toList then (laws_FnStrings.j0 k l0 t194 t195 t196 t204 t205 t206 (t206 != bt207.2)) else (laws_FnStrings.j0 k l0 t194 t195 t196 t204 t205 t206 true))) else (laws_FnStrings.j0 k l0 t194 t195 t196 t204 t205 t206 true))) else (laws_FnStrings.j0 k l0 t194 t195 t196 t204 t205 t206 true))) = some r := H
    have A11 := Aside0.mk A110
    clear A110
    replace H := Option.bind_eq_some_iff.mp H
    obtain ⟨⟨t207, t208⟩, A120, H⟩ := H
    replace H : (if t195.toList = t197.toList then (if (t196 != t198) = true then (laws_FnStrings.j0 k l0 t194 t195 t196 t204 t205 t206 true) else (if t200 = t202 then (if (t201 != t203) = true then (laws_FnStrings.j0 k l0 t194 t195 t196 t204 t205 t206 true) else (if t205.toList = t207.toList then (laws_FnStrings.j0 k l0 t194 t195 t196 t204 t205 t206 (t206 != t208)) else (laws_FnStrings.j0 k l0 t194 t195 t196 t204 t205 t206 true))) else (laws_FnStrings.j0 k l0 t194 t195 t196 t204 t205 t206 true))) else (laws_FnStrings.j0 k l0 t194 t195 t196 t204 t205 t206 true)) = some r := H
    have A12 := Aside0.mk A120
    clear A120
    have HC13 := Aside0.mk H
    clear H
    go_enter Tryd.func4, Tryd.ntmps4
    as_aux_lemma =>
      go_upto_region 12 with (first | ((with_reducible refine gate_callee (f := 5) rfl ?_); refine goesL_ (some 27) rfl rfl Tryd.func5 (by kernel_rfl) rfl #[.slice A0 l0.length c0] rfl (by (try simp only [List.map_toArray, List.map_cons, List.map_nil]); first | done | rfl | (simp only [List.length_drop, List.length_take]; rfl)) ?_; (with_reducible refine (laws_vBig.calls _ _ l0 false _ ?side1 ?side2 A2.out).mono ?_); (case side1 => repeat (first | exact HR0.out | (with_reducible refine Kd.C_alloc ?_ _) | (with_reducible refine Kd.C_drewN ?_ _) | (with_reducible refine Kd.C_drew ?_))); (case side2 => exact HC0.out); rintro e w' ⟨rfl, ⟨nd, rfl⟩⟩; refine ⟨_, rfl, ?_⟩) | ((with_reducible refine gate_callee (f := 14) rfl ?_); refine goesL_ (some 29) rfl rfl Tryd.func14 (by kernel_rfl) rfl #[.slice A0 l0.length c0] rfl (by (try simp only [List.map_toArray, List.map_cons, List.map_nil]); first | done | rfl | (simp only [List.length_drop, List.length_take]; rfl)) ?_; (with_reducible refine (spec_DrawFormatInt.calls _ _ l0 t194 _ ?side1 ?side2 A4.out).mono ?_); (case side1 => repeat (first | exact HR0.out | (with_reducible refine Kd.C_alloc ?_ _) | (with_reducible refine Kd.C_drewN ?_ _) | (with_reducible refine Kd.C_drew ?_))); (case side2 => exact HC0.out); rintro e w14 ⟨rfl, hb⟩; refine ⟨_, rfl, ?_⟩; have n0_ := Aside0.mk (below_step (by repeat (first | (with_reducible first | exact HB.out | apply below_alloc | apply pw_below_drewN | apply below_drew1) | exact HB.out)) hb); clear HB; have HB := n0_; clear n0_; (try clear hb); (try clear hb2); (try clear hk); (try clear hi)) | ((with_reducible refine gate_callee (f := 15) rfl ?_); refine goesL_ (some 32) rfl rfl Tryd.func15 (by kernel_rfl) rfl #[.int .i64 t194] rfl (by (try simp only [List.map_toArray, List.map_cons, List.map_nil]); first | done | rfl | (simp only [List.length_drop, List.length_take]; rfl)) ?_; (with_reducible refine (impl_FormatInt.calls t194 t195 t196 _ A5.out ?tabs).mono ?_); (case tabs => (with_reducible repeat (first | apply Tabs.drewN | apply Tabs.drew | apply Tabs.alloc)); first | exact HT.out | exact HT.out.below (by repeat (first | (with_reducible first | exact HB.out | apply below_alloc | apply pw_below_drewN | apply below_drew1) | exact HB.out))); rintro e w15 ⟨rfl, hb⟩; refine ⟨_, rfl, ?_⟩; have n0_ := Aside0.mk (below_step (by repeat (first | (with_reducible first | exact HB.out | apply below_alloc | apply pw_below_drewN | apply below_drew1) | exact HB.out)) hb); clear HB; have HB := n0_; clear n0_; (try clear hb); (try clear hb2); (try clear hk); (try clear hi)) | ((with_reducible refine gate_callee (f := 16) rfl ?_); refine goesL_ (some 37) rfl rfl Tryd.func16 (by kernel_rfl) rfl #[.int .i64 t194] rfl (by (try simp only [List.map_toArray, List.map_cons, List.map_nil]); first | done | rfl | (simp only [List.length_drop, List.length_take]; rfl)) ?_; (with_reducible refine (spec_FormatInt.calls k t194 t197 t198 _ A6.out).mono ?_); rintro e w16 ⟨rfl, hb⟩; refine ⟨_, rfl, ?_⟩; have n0_ := Aside0.mk (below_step (by repeat (first | (with_reducible first | exact HB.out | apply below_alloc | apply pw_below_drewN | apply below_drew1) | exact HB.out)) hb); clear HB; have HB := n0_; clear n0_; (try clear hb); (try clear hb2); (try clear hk); (try clear hi)) | ((with_reducible refine gate_callee (f := 17) rfl ?_); refine goesL_ (some 41) rfl rfl Tryd.func17 (by kernel_rfl) rfl #[.slice A0 l0.length c0] rfl (by (try simp only [List.map_toArray, List.map_cons, List.map_nil]); first | done | rfl | (simp only [List.length_drop, List.length_take]; rfl)) ?_; (with_reducible refine (spec_DrawParseInt.calls k _ _ l0 t199 _ ?side1 ?side2 A7.out).mono ?_); (case side1 => repeat (first | exact (Kd.C_below HR0.out HB.out) | (with_reducible refine Kd.C_alloc ?_ _) | (with_reducible refine Kd.C_drewN ?_ _) | (with_reducible refine Kd.C_drew ?_))); (case side2 => exact HC0.out); rintro e w17 ⟨rfl, hb⟩; refine ⟨_, rfl, ?_⟩; have n0_ := Aside0.mk (below_step (by repeat (first | (with_reducible first | exact HB.out | apply below_alloc | apply pw_below_drewN | apply below_drew1) | exact HB.out)) hb); clear HB; have HB := n0_; clear n0_; (try clear hb); (try clear hb2); (try clear hk); (try clear hi)) | ((with_reducible refine gate_callee (f := 18) rfl ?_); refine goesL_ (some 44) rfl rfl Tryd.func18 (by kernel_rfl) rfl #[.string t199] rfl (by (try simp only [List.map_toArray, List.map_cons, List.map_nil]); first | done | rfl | (simp only [List.length_drop, List.length_take]; rfl)) ?_; (with_reducible refine (impl_ParseInt.calls t199 t200 t201 _ A8.out ?tabs).mono ?_); (case tabs => (with_reducible repeat (first | apply Tabs.drewN | apply Tabs.drew | apply Tabs.alloc)); first | exact HT.out | exact HT.out.below (by repeat (first | (with_reducible first | exact HB.out | apply below_alloc | apply pw_below_drewN | apply below_drew1) | exact HB.out))); rintro e w18 ⟨rfl, hb⟩; refine ⟨_, rfl, ?_⟩; have n0_ := Aside0.mk (below_step (by repeat (first | (with_reducible first | exact HB.out | apply below_alloc | apply pw_below_drewN | apply below_drew1) | exact HB.out)) hb); clear HB; have HB := n0_; clear n0_; (try clear hb); (try clear hb2); (try clear hk); (try clear hi)) | ((with_reducible refine gate_callee (f := 19) rfl ?_); refine goesL_ (some 49) rfl rfl Tryd.func19 (by kernel_rfl) rfl #[.string t199] rfl (by (try simp only [List.map_toArray, List.map_cons, List.map_nil]); first | done | rfl | (simp only [List.length_drop, List.length_take]; rfl)) ?_; (with_reducible refine (spec_ParseInt.calls k t199 t202 t203 _ A9.out).mono ?_); rintro e w19 ⟨rfl, hb⟩; refine ⟨_, rfl, ?_⟩; have n0_ := Aside0.mk (below_step (by repeat (first | (with_reducible first | exact HB.out | apply below_alloc | apply pw_below_drewN | apply below_drew1) | exact HB.out)) hb); clear HB; have HB := n0_; clear n0_; (try clear hb); (try clear hb2); (try clear hk); (try clear hi)) | ((with_reducible refine gate_callee (f := 20) rfl ?_); refine goesL_ (some 53) rfl rfl Tryd.func20 (by kernel_rfl) rfl #[.slice A0 l0.length c0] rfl (by (try simp only [List.map_toArray, List.map_cons, List.map_nil]); first | done | rfl | (simp only [List.length_drop, List.length_take]; rfl)) ?_; (with_reducible refine (spec_DrawAppendChecksum.calls _ _ l0 t204 _ ?side1 ?side2 A10.out).mono ?_); (case side1 => repeat (first | exact (Kd.C_below HR0.out HB.out) | (with_reducible refine Kd.C_alloc ?_ _) | (with_reducible refine Kd.C_drewN ?_ _) | (with_reducible refine Kd.C_drew ?_))); (case side2 => exact HC0.out); rintro e w20 ⟨rfl, hb⟩; refine ⟨_, rfl, ?_⟩; have n0_ := Aside0.mk (below_step (by repeat (first | (with_reducible first | exact HB.out | apply below_alloc | apply pw_below_drewN | apply below_drew1) | exact HB.out)) hb); clear HB; have HB := n0_; clear n0_; (try clear hb); (try clear hb2); (try clear hk); (try clear hi)) | ((with_reducible refine gate_callee (f := 21) rfl ?_); refine goesL_ (some 56) rfl rfl Tryd.func21 (by kernel_rfl) rfl #[.string t204] rfl (by (try simp only [List.map_toArray, List.map_cons, List.map_nil]); first | done | rfl | (simp only [List.length_drop, List.length_take]; rfl)) ?_; (with_reducible refine (impl_AppendChecksum.calls k t204 t205 t206 _ A11.out ?tabs).mono ?_); (case tabs => (with_reducible repeat (first | apply Tabs.drewN | apply Tabs.drew | apply Tabs.alloc)); first | exact HT.out | exact HT.out.below (by repeat (first | (with_reducible first | exact HB.out | apply below_alloc | apply pw_below_drewN | apply below_drew1) | exact HB.out))); rintro e w21 ⟨rfl, hb⟩; refine ⟨_, rfl, ?_⟩; have n0_ := Aside0.mk (below_step (by repeat (first | (with_reducible first | exact HB.out | apply below_alloc | apply pw_below_drewN | apply below_drew1) | exact HB.out)) hb); clear HB; have HB := n0_; clear n0_; (try clear hb); (try clear hb2); (try clear hk); (try clear hi)) | ((with_reducible refine gate_callee (f := 22) rfl ?_); refine goesL_ (some 61) rfl rfl Tryd.func22 (by kernel_rfl) rfl #[.string t204] rfl (by (try simp only [List.map_toArray, List.map_cons, List.map_nil]); first | done | rfl | (simp only [List.length_drop, List.length_take]; rfl)) ?_; (with_reducible refine (spec_AppendChecksum.calls k t204 t207 t208 _ A12.out).mono ?_); rintro e w22 ⟨rfl, hb⟩; refine ⟨_, rfl, ?_⟩; have n0_ := Aside0.mk (below_step (by repeat (first | (with_reducible first | exact HB.out | apply below_alloc | apply pw_below_drewN | apply below_drew1) | exact HB.out)) hb); clear HB; have HB := n0_; clear n0_; (try clear hb); (try clear hb2); (try clear hk); (try clear hi)))
      (try simp only [Act.put, List.setIfInBounds_toArray, List.set_cons_zero, List.set_cons_succ])
      go_cut [91] (fun v91 wc => ∃ (kq : Nat) (x91_12 : Bool), v91 = .bool x91_12 ∧ Aside0 (laws_FnStrings.j0 kq l0 t194 t195 t196 t204 t205 t206 x91_12 = some r) ∧ Aside0 (kq ≤ k) ∧ Aside0 (Below w.heap.size w wc))
      case first =>
        have H := HC13.out
        clear HC13
        by_cases c23 : t195.toList = t197.toList
        · rw [if_pos c23] at H
          have c23b0 : (t195.toList == t197.toList) = true := beq_iff_eq.mpr c23
          have c23b1 : (t195.toList != t197.toList) = false := bne_eq_false_iff_eq.mpr c23
          clear c23
          (first | rw [c23b0] | (simp only [i64_w, i32_w]; rw [c23b0]) | skip)
          by_cases c24 : (t196 != t198) = true
          · rw [if_pos c24] at H
            have c24b0 : (t196 != t198) = true := c24
            (try (have c24b1 : decide (t196 = t198) = false := by simpa using c24))
            (try (have c24b2 : (t196 == t198) = false := by simpa using c24))
            (try (have c24b3 : ¬ (t196 = t198) := by simpa using c24))
            clear c24
            as_aux_lemma =>
              have H' := Aside0.mk H
              clear H
              go_wp2
              go_meet
              case rel => exact ⟨_, (true), (by first | rfl | (simp; done) | (simp [*]; done) | (simp [bne]; done)), H', ⟨by first | omega | exact Nat.le_refl _⟩, ⟨by repeat (first | (with_reducible first | exact HB.out | apply below_alloc | apply pw_below_drewN | apply below_drew1) | exact HB.out)⟩⟩
          · rw [if_neg c24] at H
            have c24b0 : (t196 != t198) = false := by simpa using c24
            (try (have c24b1 : decide (t196 = t198) = true := by simpa using c24))
            (try (have c24b2 : (t196 == t198) = true := by simpa using c24))
            clear c24
            by_cases c25 : t200 = t202
            · rw [if_pos c25] at H
              have c25b0 : (t200 == t202) = true := beq_iff_eq.mpr c25
              have c25b1 : (t200 != t202) = false := bne_eq_false_iff_eq.mpr c25
              clear c25
              by_cases c26 : (t201 != t203) = true
              · rw [if_pos c26] at H
                have c26b0 : (t201 != t203) = true := c26
                (try (have c26b1 : decide (t201 = t203) = false := by simpa using c26))
                (try (have c26b2 : (t201 == t203) = false := by simpa using c26))
                (try (have c26b3 : ¬ (t201 = t203) := by simpa using c26))
                clear c26
                as_aux_lemma =>
                  have H' := Aside0.mk H
                  clear H
                  go_wp2
                  go_meet
                  case rel => exact ⟨_, (true), (by first | rfl | (simp; done) | (simp [*]; done) | (simp [bne]; done)), H', ⟨by first | omega | exact Nat.le_refl _⟩, ⟨by repeat (first | (with_reducible first | exact HB.out | apply below_alloc | apply pw_below_drewN | apply below_drew1) | exact HB.out)⟩⟩
              · rw [if_neg c26] at H
                have c26b0 : (t201 != t203) = false := by simpa using c26
                (try (have c26b1 : decide (t201 = t203) = true := by simpa using c26))
                (try (have c26b2 : (t201 == t203) = true := by simpa using c26))
                clear c26
                by_cases c27 : t205.toList = t207.toList
                · rw [if_pos c27] at H
                  have c27b0 : (t205.toList == t207.toList) = true := beq_iff_eq.mpr c27
                  have c27b1 : (t205.toList != t207.toList) = false := bne_eq_false_iff_eq.mpr c27
                  clear c27
                  as_aux_lemma =>
                    have H' := Aside0.mk H
                    clear H
                    go_wp2
                    go_meet
                    case rel => exact ⟨_, ((t206 != t208)), (by first | rfl | (simp; done) | (simp [*]; done) | (simp [bne]; done)), H', ⟨by first | omega | exact Nat.le_refl _⟩, ⟨by repeat (first | (with_reducible first | exact HB.out | apply below_alloc | apply pw_below_drewN | apply below_drew1) | exact HB.out)⟩⟩
                · rw [if_neg c27] at H
                  have c27b0 : (t205.toList == t207.toList) = false := beq_eq_false_iff_ne.mpr c27
                  have c27b1 : (t205.toList != t207.toList) = true := bne_iff_ne.mpr c27
                  as_aux_lemma =>
                    have H' := Aside0.mk H
                    clear H
                    go_wp2
                    go_meet
                    case rel => exact ⟨_, (true), (by first | rfl | (simp; done) | (simp [*]; done) | (simp [bne]; done)), H', ⟨by first | omega | exact Nat.le_refl _⟩, ⟨by repeat (first | (with_reducible first | exact HB.out | apply below_alloc | apply pw_below_drewN | apply below_drew1) | exact HB.out)⟩⟩
            · rw [if_neg c25] at H
              have c25b0 : (t200 == t202) = false := beq_eq_false_iff_ne.mpr c25
              have c25b1 : (t200 != t202) = true := bne_iff_ne.mpr c25
              as_aux_lemma =>
                have H' := Aside0.mk H
                clear H
                go_wp2
                go_meet
                case rel => exact ⟨_, (true), (by first | rfl | (simp; done) | (simp [*]; done) | (simp [bne]; done)), H', ⟨by first | omega | exact Nat.le_refl _⟩, ⟨by repeat (first | (with_reducible first | exact HB.out | apply below_alloc | apply pw_below_drewN | apply below_drew1) | exact HB.out)⟩⟩
        · rw [if_neg c23] at H
          have c23b0 : (t195.toList == t197.toList) = false := beq_eq_false_iff_ne.mpr c23
          have c23b1 : (t195.toList != t197.toList) = true := bne_iff_ne.mpr c23
          (first | rw [c23b0] | (simp only [i64_w, i32_w]; rw [c23b0]) | skip)
          as_aux_lemma =>
            have H' := Aside0.mk H
            clear H
            go_wp2
            go_meet
            case rel => exact ⟨_, (true), (by first | rfl | (simp; done) | (simp [*]; done) | (simp [bne]; done)), H', ⟨by first | omega | exact Nat.le_refl _⟩, ⟨by repeat (first | (with_reducible first | exact HB.out | apply below_alloc | apply pw_below_drewN | apply below_drew1) | exact HB.out)⟩⟩
      case rest =>
        clear HC13
        try clear c1
        try clear c2
        try clear p2
        try clear c3
        try clear c4
        try clear c5
        try clear c14
        try clear c15
        try clear c16
        try clear c17
        try clear c18
        try clear c19
        try clear c20
        try clear c21
        try clear c22
        try clear c23
        try clear c23b0
        try clear c23b1
        try clear c24
        try clear c24b0
        try clear c24b1
        try clear c24b2
        try clear c25
        try clear c25b0
        try clear c25b1
        try clear c26
        try clear c26b0
        try clear c26b1
        try clear c26b2
        try clear c27
        try clear c27b0
        try clear c27b1
        obtain ⟨kq, x91_12, rfl, HA, HJ12, HB⟩ := hcut
        cases kq with
        | zero => exact absurd HA.out (by simp [laws_FnStrings.j0])
        | succ kj12 =>
          have H := HA.out
          clear HA
          simp only [laws_FnStrings.j0] at H
          by_cases c28 : x91_12 = true
          · subst c28
            have H1 : (some false) = some r := by rw [if_pos rfl] at H; exact H
            clear H
            have H := H1
            clear H1
            as_aux_lemma =>
              obtain rfl := Option.some.inj H
              go_wp2
              go_ret
              exact ⟨by first | rfl | (simp [errW_none, errW_some] <;> rfl) | (simp [*, errW_none, errW_some] <;> rfl), by repeat (first | (with_reducible first | exact HB.out | apply below_alloc | apply pw_below_drewN | apply below_drew1) | exact HB.out)⟩
          · replace c28 := Bool.eq_false_iff.mpr c28
            subst c28
            have H1 : ((impl_ParseInt.f t195).bind fun bt209 => (if t196 = true then (if bt209.2 = true then (laws_FnStrings.j1 kj12 l0 t204 t205 t206 (bt209.1 != t194)) else (laws_FnStrings.j1 kj12 l0 t204 t205 t206 true)) else (laws_FnStrings.j1 kj12 l0 t204 t205 t206 false))) = some r := by rw [if_neg (show ¬ (false = true) by decide)] at H; exact H
            clear H
            have H := H1
            clear H1
            replace H := Option.bind_eq_some_iff.mp H
            obtain ⟨⟨t209, t210⟩, A290, H⟩ := H
            replace H : (if t196 = true then (if t210 = true then (laws_FnStrings.j1 kj12 l0 t204 t205 t206 (t209 != t194)) else (laws_FnStrings.j1 kj12 l0 t204 t205 t206 true)) else (laws_FnStrings.j1 kj12 l0 t204 t205 t206 false)) = some r := H
            have A29 := Aside0.mk A290
            clear A290
            have HC30 := Aside0.mk H
            clear H
            as_aux_lemma =>
              go_upto_region 15 with (first | ((with_reducible refine gate_callee (f := 18) rfl ?_); refine goesL_ (some 94) rfl rfl Tryd.func18 (by kernel_rfl) rfl #[.string t195] rfl (by (try simp only [List.map_toArray, List.map_cons, List.map_nil]); first | done | rfl | (simp only [List.length_drop, List.length_take]; rfl)) ?_; (with_reducible refine (impl_ParseInt.calls t195 t209 t210 _ A29.out ?tabs).mono ?_); (case tabs => (with_reducible repeat (first | apply Tabs.drewN | apply Tabs.drew | apply Tabs.alloc)); first | exact HT.out | exact HT.out.below (by repeat (first | (with_reducible first | exact HB.out | apply below_alloc | apply pw_below_drewN | apply below_drew1) | exact HB.out))); rintro e w31 ⟨rfl, hb⟩; refine ⟨_, rfl, ?_⟩; have n0_ := Aside0.mk (below_step (by repeat (first | (with_reducible first | exact HB.out | apply below_alloc | apply pw_below_drewN | apply below_drew1) | exact HB.out)) hb); clear HB; have HB := n0_; clear n0_; (try clear hb); (try clear hb2); (try clear hk); (try clear hi)))
              (try simp only [Act.put, List.setIfInBounds_toArray, List.set_cons_zero, List.set_cons_succ])
              go_cut [106] (fun v106 wc => ∃ (kq : Nat) (x106_29 : Bool), v106 = .bool x106_29 ∧ Aside0 (laws_FnStrings.j1 kq l0 t204 t205 t206 x106_29 = some r) ∧ Aside0 (kq ≤ kj12) ∧ Aside0 (Below w.heap.size w wc))
              case first =>
                have H := HC30.out
                clear HC30
                by_cases c32 : t196 = true
                · subst c32
                  have H1 : (if t210 = true then (laws_FnStrings.j1 kj12 l0 t204 t205 t206 (t209 != t194)) else (laws_FnStrings.j1 kj12 l0 t204 t205 t206 true)) = some r := by rw [if_pos rfl] at H; exact H
                  clear H
                  have H := H1
                  clear H1
                  by_cases c33 : t210 = true
                  · subst c33
                    have H1 : (laws_FnStrings.j1 kj12 l0 t204 t205 t206 (t209 != t194)) = some r := by rw [if_pos rfl] at H; exact H
                    clear H
                    have H := H1
                    clear H1
                    as_aux_lemma =>
                      have H' := Aside0.mk H
                      clear H
                      go_wp2
                      go_meet
                      case rel => exact ⟨_, ((t209 != t194)), (by first | rfl | (simp; done) | (simp [*]; done) | (simp [bne]; done)), H', ⟨by have := HJ12.out; first | omega | exact Nat.le_refl _⟩, ⟨by repeat (first | (with_reducible first | exact HB.out | apply below_alloc | apply pw_below_drewN | apply below_drew1) | exact HB.out)⟩⟩
                  · replace c33 := Bool.eq_false_iff.mpr c33
                    subst c33
                    have H1 : (laws_FnStrings.j1 kj12 l0 t204 t205 t206 true) = some r := by rw [if_neg (show ¬ (false = true) by decide)] at H; exact H
                    clear H
                    have H := H1
                    clear H1
                    as_aux_lemma =>
                      have H' := Aside0.mk H
                      clear H
                      go_wp2
                      go_meet
                      case rel => exact ⟨_, (true), (by first | rfl | (simp; done) | (simp [*]; done) | (simp [bne]; done)), H', ⟨by have := HJ12.out; first | omega | exact Nat.le_refl _⟩, ⟨by repeat (first | (with_reducible first | exact HB.out | apply below_alloc | apply pw_below_drewN | apply below_drew1) | exact HB.out)⟩⟩
                · replace c32 := Bool.eq_false_iff.mpr c32
                  subst c32
                  have H1 : (laws_FnStrings.j1 kj12 l0 t204 t205 t206 false) = some r := by rw [if_neg (show ¬ (false = true) by decide)] at H; exact H
                  clear H
                  have H := H1
                  clear H1
                  as_aux_lemma =>
                    have H' := Aside0.mk H
                    clear H
                    go_wp2
                    go_meet
                    case rel => exact ⟨_, (false), (by first | rfl | (simp; done) | (simp [*]; done) | (simp [bne]; done)), H', ⟨by have := HJ12.out; first | omega | exact Nat.le_refl _⟩, ⟨by repeat (first | (with_reducible first | exact HB.out | apply below_alloc | apply pw_below_drewN | apply below_drew1) | exact HB.out)⟩⟩
              case rest =>
                clear HC30
                try clear c1
                try clear c2
                try clear p2
                try clear c3
                try clear c4
                try clear c5
                try clear c14
                try clear c15
                try clear c16
                try clear c17
                try clear c18
                try clear c19
                try clear c20
                try clear c21
                try clear c22
                try clear c23
                try clear c23b0
                try clear c23b1
                try clear c24
                try clear c24b0
                try clear c24b1
                try clear c24b2
                try clear c25
                try clear c25b0
                try clear c25b1
                try clear c26
                try clear c26b0
                try clear c26b1
                try clear c26b2
                try clear c27
                try clear c27b0
                try clear c27b1
                try clear c28
                try clear c32
                try clear c33
                try clear p2
                obtain ⟨kq, x106_29, rfl, HA, HJ29, HB⟩ := hcut
                cases kq with
                | zero => exact absurd HA.out (by simp [laws_FnStrings.j1])
                | succ kj29 =>
                  have H := HA.out
                  clear HA
                  simp only [laws_FnStrings.j1] at H
                  by_cases c34 : x106_29 = true
                  · subst c34
                    have H1 : (some false) = some r := by rw [if_pos rfl] at H; exact H
                    clear H
                    have H := H1
                    clear H1
                    as_aux_lemma =>
                      obtain rfl := Option.some.inj H
                      go_wp2
                      go_ret
                      exact ⟨by first | rfl | (simp [errW_none, errW_some] <;> rfl) | (simp [*, errW_none, errW_some] <;> rfl), by repeat (first | (with_reducible first | exact HB.out | apply below_alloc | apply pw_below_drewN | apply below_drew1) | exact HB.out)⟩
                  · replace c34 := Bool.eq_false_iff.mpr c34
                    subst c34
                    have H1 : (if t206 = true then ((impl_VerifyChecksum.f kj29 t205).bind fun bt211 => ((conv_bytes.f t205).bind fun t213 => ((laws_vAt.f l0 9).bind fun t216 => (if (t213.length : Int) = 0 then (none) else (if 0 ≤ (Int.tmod t216 (t213.length : Int)) then (if (Int.tmod t216 (t213.length : Int)) < (t213.length : Int) then ((laws_vAt.f l0 10).bind fun t218 => ((impl_VerifyChecksum.f kj29 (strOfNums (t213.set ((Int.tmod t216 (t213.length : Int)) : Int).toNat (Go.bits .xor .u8 (rd t213 (Int.tmod t216 (t213.length : Int))) ((wrap64 (1 + (Int.tmod t218 255))) % 256))))).bind fun bt220 => (if bt211.2 = true then (if bt211.1.toList = t204.toList then (some (!bt220.2)) else (some false)) else (some false)))) else (none)) else (none)))))) else (some (t205.toList == ([] : List UInt8)))) = some r := by rw [if_neg (show ¬ (false = true) by decide)] at H; exact H
                    clear H
                    have H := H1
                    clear H1
                    by_cases c35 : t206 = true
                    · subst c35
                      have H1 : ((impl_VerifyChecksum.f kj29 t205).bind fun bt211 => ((conv_bytes.f t205).bind fun t213 => ((laws_vAt.f l0 9).bind fun t216 => (if (t213.length : Int) = 0 then (none) else (if 0 ≤ (Int.tmod t216 (t213.length : Int)) then (if (Int.tmod t216 (t213.length : Int)) < (t213.length : Int) then ((laws_vAt.f l0 10).bind fun t218 => ((impl_VerifyChecksum.f kj29 (strOfNums (t213.set ((Int.tmod t216 (t213.length : Int)) : Int).toNat (Go.bits .xor .u8 (rd t213 (Int.tmod t216 (t213.length : Int))) ((wrap64 (1 + (Int.tmod t218 255))) % 256))))).bind fun bt220 => (if bt211.2 = true then (if bt211.1.toList = t204.toList then (some (!bt220.2)) else (some false)) else (some false)))) else (none)) else (none)))))) = some r := by rw [if_pos rfl] at H; exact H
                      clear H
                      have H := H1
                      clear H1
                      replace H := Option.bind_eq_some_iff.mp H
                      obtain ⟨⟨t211, t212⟩, A360, H⟩ := H
                      replace H : ((conv_bytes.f t205).bind fun t213 => ((laws_vAt.f l0 9).bind fun t216 => (if (t213.length : Int) = 0 then (none) else (if 0 ≤ (Int.tmod t216 (t213.length : Int)) then (if (Int.tmod t216 (t213.length : Int)) < (t213.length : Int) then ((laws_vAt.f l0 10).bind fun t218 => ((impl_VerifyChecksum.f kj29 (strOfNums (t213.set ((Int.tmod t216 (t213.length : Int)) : Int).toNat (Go.bits .xor .u8 (rd t213 (Int.tmod t216 (t213.length : Int))) ((wrap64 (1 + (Int.tmod t218 255))) % 256))))).bind fun bt220 => (if t212 = true then (if t211.toList = t204.toList then (some (!bt220.2)) else (some false)) else (some false)))) else (none)) else (none))))) = some r := H
                      have A36 := Aside0.mk A360
                      clear A360
                      replace H := Option.bind_eq_some_iff.mp H
                      obtain ⟨t213, A370, H⟩ := H
                      replace H : ((laws_vAt.f l0 9).bind fun t216 => (if (t213.length : Int) = 0 then (none) else (if 0 ≤ (Int.tmod t216 (t213.length : Int)) then (if (Int.tmod t216 (t213.length : Int)) < (t213.length : Int) then ((laws_vAt.f l0 10).bind fun t218 => ((impl_VerifyChecksum.f kj29 (strOfNums (t213.set ((Int.tmod t216 (t213.length : Int)) : Int).toNat (Go.bits .xor .u8 (rd t213 (Int.tmod t216 (t213.length : Int))) ((wrap64 (1 + (Int.tmod t218 255))) % 256))))).bind fun bt220 => (if t212 = true then (if t211.toList = t204.toList then (some (!bt220.2)) else (some false)) else (some false)))) else (none)) else (none)))) = some r := H
                      have A37 := Aside0.mk A370
                      clear A370
                      replace H := Option.bind_eq_some_iff.mp H
                      obtain ⟨t216, A380, H⟩ := H
                      replace H : (if (t213.length : Int) = 0 then (none) else (if 0 ≤ (Int.tmod t216 (t213.length : Int)) then (if (Int.tmod t216 (t213.length : Int)) < (t213.length : Int) then ((laws_vAt.f l0 10).bind fun t218 => ((impl_VerifyChecksum.f kj29 (strOfNums (t213.set ((Int.tmod t216 (t213.length : Int)) : Int).toNat (Go.bits .xor .u8 (rd t213 (Int.tmod t216 (t213.length : Int))) ((wrap64 (1 + (Int.tmod t218 255))) % 256))))).bind fun bt220 => (if t212 = true then (if t211.toList = t204.toList then (some (!bt220.2)) else (some false)) else (some false)))) else (none)) else (none))) = some r := H
                      have A38 := Aside0.mk A380
                      clear A380
                      by_cases c39 : (t213.length : Int) = 0
                      · rw [if_pos c39] at H
                        exact absurd H (by simp)
                      · rw [if_neg c39] at H
                        have c39b0 : ((t213.length : Int) == 0) = false := beq_eq_false_iff_ne.mpr c39
                        have c39b1 : ((t213.length : Int) != 0) = true := bne_iff_ne.mpr c39
                        have c39b2 : ¬ (t213 = []) := fun h_ => c39 (by rw [h_]; rfl)
                        obtain ⟨ji40, hji40⟩ : ∃ j_ : Int, (Int.tmod t216 (t213.length : Int)) = j_ := ⟨_, rfl⟩
                        replace H : (if 0 ≤ (ji40) then (if (ji40) < (t213.length : Int) then ((laws_vAt.f l0 10).bind fun t218 => ((impl_VerifyChecksum.f kj29 (strOfNums (t213.set ((ji40) : Int).toNat (Go.bits .xor .u8 (rd t213 (ji40)) ((wrap64 (1 + (Int.tmod t218 255))) % 256))))).bind fun bt220 => (if t212 = true then (if t211.toList = t204.toList then (some (!bt220.2)) else (some false)) else (some false)))) else (none)) else (none)) = some r := by first | (rw [hji40] at H; exact H) | (simp only [hji40] at H ⊢; exact H)
                        (try rw [hji40] at A36)
                        (try rw [hji40] at A37)
                        (try rw [hji40] at A38)
                        by_cases c41 : 0 ≤ (ji40)
                        · rw [if_pos c41] at H
                          have c41b0 : decide (0 ≤ (ji40)) = true := decide_eq_true c41
                          clear c41
                          by_cases c42 : (ji40) < (t213.length : Int)
                          · rw [if_pos c42] at H
                            have c42b0 : decide ((ji40) < (t213.length : Int)) = true := decide_eq_true c42
                            clear c42
                            replace H := Option.bind_eq_some_iff.mp H
                            obtain ⟨t218, A430, H⟩ := H
                            replace H : ((impl_VerifyChecksum.f kj29 (strOfNums (t213.set ((ji40) : Int).toNat (Go.bits .xor .u8 (rd t213 (ji40)) ((wrap64 (1 + (Int.tmod t218 255))) % 256))))).bind fun bt220 => (if t212 = true then (if t211.toList = t204.toList then (some (!bt220.2)) else (some false)) else (some false))) = some r := H
                            have A43 := Aside0.mk A430
                            clear A430
                            obtain ⟨y219, hy219⟩ : ∃ y_ : List Int, y_ = (t213.set ((ji40) : Int).toNat (Go.bits .xor .u8 (rd t213 (ji40)) ((wrap64 (1 + (Int.tmod t218 255))) % 256))) := ⟨_, rfl⟩
                            replace H : ((impl_VerifyChecksum.f kj29 (strOfNums y219)).bind fun bt220 => (if t212 = true then (if t211.toList = t204.toList then (some (!bt220.2)) else (some false)) else (some false))) = some r := by first | (rw [hy219]; with_reducible exact H) | (have H2_ := (Option.bind_some _ _).symm.trans H; rw [hy219]; with_reducible exact H2_) | (have H2_ := (Option.bind_some _ _).symm.trans H; with_reducible exact H2_) | with_reducible exact H | (rw [hy219]; exact H) | exact H
                            have Ny219 := Aside0.mk hy219
                            clear hy219
                            replace H := Option.bind_eq_some_iff.mp H
                            obtain ⟨⟨t220, t221⟩, A450, H⟩ := H
                            replace H : (if t212 = true then (if t211.toList = t204.toList then (some (!t221)) else (some false)) else (some false)) = some r := H
                            have A45 := Aside0.mk A450
                            clear A450
                            by_cases c46 : t212 = true
                            · subst c46
                              have H1 : (if t211.toList = t204.toList then (some (!t221)) else (some false)) = some r := by rw [if_pos rfl] at H; exact H
                              clear H
                              have H := H1
                              clear H1
                              by_cases c47 : t211.toList = t204.toList
                              · rw [if_pos c47] at H
                                have c47b0 : (t211.toList == t204.toList) = true := beq_iff_eq.mpr c47
                                have c47b1 : (t211.toList != t204.toList) = false := bne_eq_false_iff_eq.mpr c47
                                clear c47
                                as_aux_lemma =>
                                  obtain rfl := Option.some.inj H
                                  try go_wp2_with (first | ((with_reducible refine gate_callee (f := 23) rfl ?_); refine goesL_ (some 113) rfl rfl Tryd.func23 (by kernel_rfl) rfl #[.string t205] rfl (by (try simp only [List.map_toArray, List.map_cons, List.map_nil]); first | done | rfl | (simp only [List.length_drop, List.length_take]; rfl)) ?_; (with_reducible refine (impl_VerifyChecksum.calls kj29 t205 t211 true _ A36.out ?tabs).mono ?_); (case tabs => (with_reducible repeat (first | apply Tabs.drewN | apply Tabs.drew | apply Tabs.alloc)); first | exact HT.out | exact HT.out.below (by repeat (first | (with_reducible first | exact HB.out | apply below_alloc | apply pw_below_drewN | apply below_drew1) | exact HB.out))); rintro e w48 ⟨rfl, hb⟩; refine ⟨_, rfl, ?_⟩; have n0_ := Aside0.mk (below_step (by repeat (first | (with_reducible first | exact HB.out | apply below_alloc | apply pw_below_drewN | apply below_drew1) | exact HB.out)) hb); clear HB; have HB := n0_; clear n0_; (try clear hb); (try clear hb2); (try clear hk); (try clear hi)) | ((refine Go.Proofs.YthgfndbbbhbkeaaDoor.Mr.gate_conv (src := 9) (dst := 22) rfl ?_); refine Go.Proofs.YthgfndbbbhbkeaaDoor.Mr.conv_event 117 9 22 5 _ t205 rfl rfl rfl rfl Tryd.underlying9 Tryd.underlying22 Tryd.underlying5 (conv_bytes.le A37.out) ?_; intro v214 w49 ho0 hb; rw [conv_bytes.eq A37.out] at ho0; have n0_ := Aside0.mk (Go.Proofs.YthgfndbbbhbkeaaDoor.Mr.R_lower ho0 (below_size (by repeat (first | (with_reducible first | exact HB.out | apply below_alloc | apply pw_below_drewN | apply below_drew1) | exact HB.out)))); have n1_ := Aside0.mk (below_step (by repeat (first | (with_reducible first | exact HB.out | apply below_alloc | apply pw_below_drewN | apply below_drew1) | exact HB.out)) hb); clear HB; have HO215 := n0_; have HB := n1_; clear n0_ n1_; (try clear hb); (try clear hb2); (try clear hk); (try clear hi); (try clear ho0)) | ((with_reducible refine gate_callee (f := 24) rfl ?_); refine goesL_ (some 119) rfl rfl Tryd.func24 (by kernel_rfl) rfl #[.slice A0 l0.length c0, .int .i64 9] rfl (by (try simp only [List.map_toArray, List.map_cons, List.map_nil]); first | done | rfl | (simp only [List.length_drop, List.length_take]; rfl)) ?_; (with_reducible refine (laws_vAt.calls _ _ l0 9 t216 _ ?side1 ?side2 A38.out).mono ?_); (case side1 => repeat (first | exact (Kd.C_below HR0.out HB.out) | (with_reducible refine Kd.C_alloc ?_ _) | (with_reducible refine Kd.C_drewN ?_ _) | (with_reducible refine Kd.C_drew ?_))); (case side2 => exact HC0.out); rintro e w' ⟨rfl, ⟨nd, rfl⟩⟩; refine ⟨_, rfl, ?_⟩; (try (rw [drewN_self w49]; generalize hq_ : World.drewN w49 _ = w49; have n0_ : Aside0 (Go.Proofs.YthgfndbbbhbkeaaDoor.Mr.R w49 w.heap.size v214 t213) := ⟨by rw [← hq_]; exact (by (with_reducible repeat (first | apply Go.Proofs.YthgfndbbbhbkeaaDoor.Mr.R_alloc | apply Go.Proofs.YthgfndbbbhbkeaaDoor.Mr.R_drewN | apply Go.Proofs.YthgfndbbbhbkeaaDoor.Mr.R_drew)); exact HO215.out)⟩; have n1_ : Aside0 (Below w.heap.size w w49) := ⟨by rw [← hq_]; exact (by repeat (first | (with_reducible first | exact HB.out | apply below_alloc | apply pw_below_drewN | apply below_drew1) | exact HB.out))⟩; clear HO215 HB hq_; have HO215 := n0_; have HB := n1_; clear n0_ n1_)); obtain ⟨Ao50, co50, eo50⟩ := Go.Proofs.YthgfndbbbhbkeaaDoor.Mr.R_slice HO215.out; subst eo50))
                                  have n0_ := Aside0.mk (Go.Proofs.YthgfndbbbhbkeaaDoor.Mr.R_drew HO215.out)
                                  have n1_ := Aside0.mk (below_drew1 HB.out)
                                  clear HO215
                                  clear HB
                                  have HO215 := n0_
                                  have HB := n1_
                                  clear n0_ n1_
                                  have p217 : 0 ≤ ((ji40) : Int) := of_decide_eq_true (by first | (with_reducible assumption) | assumption)
                                  have q217 : (ji40) < (t213.length : Int) := of_decide_eq_true (by first | (with_reducible assumption) | assumption)
                                  obtain ⟨ad217, e217, hx217_0⟩ := Go.Proofs.YthgfndbbbhbkeaaDoor.Mr.at_ HO215.out (ji40) p217 q217
                                  cases e217
                                  replace p217 := eq_true p217
                                  replace q217 := eq_true q217
                                  refine start_ (n := 14) (S := fun w' => w'.cell? (ad217.add ((ji40)).toNat) = some (.int .u8 (rd t213 (ji40)))) (ds := [13]) #[false, false, false, false, false, false, false, false, false, false, false, false, false, false] (by kernel_rfl) rfl rfl (hx217_0) (fun hHeld => ?_); refine with_tabW laws_FnStrings.tab22 laws_FnStrings.bits22 (fun HT_ HW_ => ?_)
                                  generalize w49.drew = w51 at HO215 HB hx217_0 hHeld ⊢
                                  refine pure_ (i := 0) (N := some 123) (v := ?_) (a' := ?_) #[true, false, false, false, false, false, false, false, false, false, false, false, false, false] rfl rfl (any_of HT_.out (by kernel_rfl)) (fun _ _ _ h => h) (Or.inl ⟨by rfl, ?_⟩) ?_ ?_
                                  rotate_left
                                  · intro w'
                                    go_simp
                                    with_reducible rfl
                                  rotate_left
                                  · simp only [Act.put, List.setIfInBounds_toArray, List.set_cons_zero, List.set_cons_succ, i64_w, i32_w]
                                    rfl
                                  refine pure_ (i := 1) (N := some 124) (v := ?_) (a' := ?_) #[true, true, false, false, false, false, false, false, false, false, false, false, false, false] rfl rfl (any_of HT_.out (by kernel_rfl)) (fun _ _ _ h => h) (Or.inl ⟨by rfl, ?_⟩) ?_ ?_
                                  rotate_left
                                  · intro w'
                                    go_simp
                                    with_reducible rfl
                                  rotate_left
                                  · simp only [Act.put, List.setIfInBounds_toArray, List.set_cons_zero, List.set_cons_succ, i64_w, i32_w]
                                    rfl
                                  refine pure_ (i := 2) (N := some 125) (v := ?_) (a' := ?_) #[true, true, true, false, false, false, false, false, false, false, false, false, false, false] rfl rfl (any_of HT_.out (by kernel_rfl)) (fun _ _ _ h => h) (Or.inl ⟨by rfl, ?_⟩) ?_ ?_
                                  rotate_left
                                  · intro w'
                                    go_simp
                                    with_reducible rfl
                                  rotate_left
                                  · simp only [Act.put, List.setIfInBounds_toArray, List.set_cons_zero, List.set_cons_succ, i64_w, i32_w]
                                    rfl
                                  refine pure_ (i := 3) (N := some 126) (v := ?_) (a' := ?_) #[true, true, true, true, false, false, false, false, false, false, false, false, false, false] rfl rfl (any_of HT_.out (by kernel_rfl)) (fun _ _ _ h => h) (Or.inl ⟨by rfl, ?_⟩) ?_ ?_
                                  rotate_left
                                  · intro w'
                                    go_simp
                                    with_reducible rfl
                                  rotate_left
                                  · simp only [Act.put, List.setIfInBounds_toArray, List.set_cons_zero, List.set_cons_succ, i64_w, i32_w]
                                    rfl
                                  refine pure_ (i := 4) (N := some 127) (v := ?_) (a' := ?_) #[true, true, true, true, true, false, false, false, false, false, false, false, false, false] rfl rfl (any_of HT_.out (by kernel_rfl)) (fun _ _ _ h => h) (Or.inl ⟨by rfl, ?_⟩) ?_ ?_
                                  rotate_left
                                  · intro w'
                                    go_simp
                                    with_reducible rfl
                                  rotate_left
                                  · simp only [Act.put, List.setIfInBounds_toArray, List.set_cons_zero, List.set_cons_succ, i64_w, i32_w]
                                    rfl
                                  refine pure_ (i := 6) (N := some 129) (v := ?_) (a' := ?_) #[true, true, true, true, true, false, true, false, false, false, false, false, false, false] rfl rfl (any_of HT_.out (by kernel_rfl)) (fun _ _ _ h => h) (Or.inl ⟨by rfl, ?_⟩) ?_ ?_
                                  rotate_left
                                  · intro w'
                                    go_simp
                                    with_reducible rfl
                                  rotate_left
                                  · simp only [Act.put, List.setIfInBounds_toArray, List.set_cons_zero, List.set_cons_succ, i64_w, i32_w]
                                    rfl
                                  refine take_ (i := 5) (N := some 128) (v := ?_) (a' := ?_) #[true, true, true, true, true, true, true, false, false, false, false, false, false, false] rfl rfl (take_ofW HT_.out HW_.out (by kernel_rfl)) (fun _ _ _ h => h) (Or.inl ⟨by rfl, ?_⟩) hHeld ?_ ?_
                                  rotate_left
                                  · intro w' s0
                                    go_simp
                                    with_reducible rfl
                                  rotate_left
                                  · simp only [Act.put, List.setIfInBounds_toArray, List.set_cons_zero, List.set_cons_succ, i64_w, i32_w]
                                    rfl
                                  refine one_ (i := 7) (N := some 130) #[true, true, true, true, true, true, true, true, false, false, false, false, false, false] rfl rfl (one_of HT_.out (by kernel_rfl)) (by decide) (fun K hK => ?_)
                                  refine goes_ Tryd.func24 (by kernel_rfl) rfl #[.slice A0 l0.length c0, .int .i64 10] (by rfl) rfl rfl (by (try simp only [List.map_toArray, List.map_cons, List.map_nil]); first | done | rfl | (simp only [List.length_drop, List.length_take]; rfl)) ?_
                                  with_reducible refine (laws_vAt.calls _ _ l0 10 t218 _ ?side1 ?side2 A43.out).mono ?_
                                  (case side1 => repeat (first | exact (Kd.C_below HR0.out HB.out) | (with_reducible refine Kd.C_alloc ?_ _) | (with_reducible refine Kd.C_drewN ?_ _) | (with_reducible refine Kd.C_drew ?_)))
                                  (case side2 => exact HC0.out)
                                  rintro e w' ⟨rfl, ⟨nd, rfl⟩⟩
                                  refine ⟨_, rfl, ?_⟩
                                  have p44 : 0 ≤ ((ji40) : Int) := of_decide_eq_true (by first | (with_reducible assumption) | assumption)
                                  have q44 : ((ji40) : Int) < ((t213.length : Int) : Int) := of_decide_eq_true (by first | (with_reducible assumption) | assumption)
                                  obtain ⟨go44, co44, eo44, gb44, gl44, cl44, HG44⟩ := Go.Proofs.YthgfndbbbhbkeaaDoor.Mr.R_form HO215.out (by omega)
                                  (first | cases eo44 | (injection eo44 with ea_ en_ ec_; (first | subst ea_ | (injection ea_ with ea_; subst ea_)); subst ec_; clear en_))
                                  have GB44 := Aside0.mk gb44
                                  have GG44 := Aside0.mk HG44
                                  clear gb44 gl44 HG44
                                  (first | simp only [add_plain] at hx217_0 | skip)
                                  obtain ⟨hx44_0, hf44_0⟩ := Go.Proofs.YthgfndbbbhbkeaaDoor.Mr.R_celln HO215.out ((ji40) : Int) p44 q44
                                  replace p44 := eq_true p44
                                  replace q44 := eq_true q44
                                  have HP52 := Go.Proofs.YthgfndbbbhbkeaaDoor.Mr.R_putn (Go.Proofs.YthgfndbbbhbkeaaDoor.Mr.R_drewN HO215.out nd) ((ji40) : Int) (Go.bits .xor .u8 (rd t213 (ji40)) ((wrap64 (1 + (Int.tmod t218 255))) % 256))
                                  rw [← Ny219.out] at HP52
                                  have HQ52 := Aside0.mk HP52
                                  clear HP52
                                  refine hK.out _ _ (hHeld) (fun hHeld => ?_)
                                  clear hK K
                                  refine norm_ (a' := ?_) ?_ ?_
                                  rotate_left
                                  · show Act.put _ (some 130) _ = _
                                    simp only [Act.put, List.setIfInBounds_toArray, List.set_cons_zero, List.set_cons_succ, i64_w, i32_w]
                                    rfl
                                  refine pure_ (i := 8) (N := some 131) (v := ?_) (a' := ?_) #[true, true, true, true, true, true, true, true, true, false, false, false, false, false] rfl rfl (any_of HT_.out (by kernel_rfl)) (fun _ _ _ h => h) (Or.inl ⟨by rfl, ?_⟩) ?_ ?_
                                  rotate_left
                                  · intro w'
                                    go_simp
                                    with_reducible rfl
                                  rotate_left
                                  · simp only [Act.put, List.setIfInBounds_toArray, List.set_cons_zero, List.set_cons_succ, i64_w, i32_w]
                                    rfl
                                  refine pure_ (i := 9) (N := some 132) (v := ?_) (a' := ?_) #[true, true, true, true, true, true, true, true, true, true, false, false, false, false] rfl rfl (any_of HT_.out (by kernel_rfl)) (fun _ _ _ h => h) (Or.inl ⟨by rfl, ?_⟩) ?_ ?_
                                  rotate_left
                                  · intro w'
                                    go_simp
                                    with_reducible rfl
                                  rotate_left
                                  · simp only [Act.put, List.setIfInBounds_toArray, List.set_cons_zero, List.set_cons_succ, i64_w, i32_w]
                                    rfl
                                  refine pure_ (i := 10) (N := some 133) (v := ?_) (a' := ?_) #[true, true, true, true, true, true, true, true, true, true, true, false, false, false] rfl rfl (any_of HT_.out (by kernel_rfl)) (fun _ _ _ h => h) (Or.inl ⟨by rfl, ?_⟩) ?_ ?_
                                  rotate_left
                                  · intro w'
                                    go_simp
                                    with_reducible rfl
                                  rotate_left
                                  · simp only [Act.put, List.setIfInBounds_toArray, List.set_cons_zero, List.set_cons_succ, i64_w, i32_w]
                                    rfl
                                  refine pure_ (i := 11) (N := some 134) (v := ?_) (a' := ?_) #[true, true, true, true, true, true, true, true, true, true, true, true, false, false] rfl rfl (any_of HT_.out (by kernel_rfl)) (fun _ _ _ h => h) (Or.inl ⟨by rfl, ?_⟩) ?_ ?_
                                  rotate_left
                                  · intro w'
                                    go_simp
                                    with_reducible rfl
                                  rotate_left
                                  · simp only [Act.put, List.setIfInBounds_toArray, List.set_cons_zero, List.set_cons_succ, i64_w, i32_w]
                                    rfl
                                  refine pure_ (i := 12) (N := some 135) (v := ?_) (a' := ?_) #[true, true, true, true, true, true, true, true, true, true, true, true, true, false] rfl rfl (any_of HT_.out (by kernel_rfl)) (fun _ _ _ h => h) (Or.inl ⟨by rfl, ?_⟩) ?_ ?_
                                  rotate_left
                                  · intro w'
                                    go_simp
                                    with_reducible rfl
                                  rotate_left
                                  · simp only [Act.put, List.setIfInBounds_toArray, List.set_cons_zero, List.set_cons_succ, i64_w, i32_w]
                                    rfl
                                  refine last_ (i := 13) (N := none) #[true, true, true, true, true, true, true, true, true, true, true, true, true, true] rfl rfl (one_of HT_.out (by kernel_rfl)) (by decide) (fun K hK => ?_)
                                  refine skip_ (w1 := ?_) (by rfl) rfl ?_ ?_
                                  rotate_left
                                  · go_simp
                                    rfl
                                  refine hK.out _ _ ?_
                                  clear hK K
                                  refine done_ (done_of HT_.out (by kernel_rfl)) ?_
                                  have hcv53 := Go.Proofs.YthgfndbbbhbkeaaDoor.Mr.conv (P := Tryd.prog) Tryd.underlying22 Tryd.underlying5 Tryd.underlying9 HQ52.out
                                  try go_wp2
                                  rw [hcv53]
                                  try go_wp2_with (first | ((with_reducible refine gate_callee (f := 23) rfl ?_); refine goesL_ (some 139) rfl rfl Tryd.func23 (by kernel_rfl) rfl #[.string (strOfNums y219)] rfl (by (try simp only [List.map_toArray, List.map_cons, List.map_nil]); first | done | rfl | (simp only [List.length_drop, List.length_take]; rfl)) ?_; (with_reducible refine (impl_VerifyChecksum.calls kj29 (strOfNums y219) t220 t221 _ A45.out ?tabs).mono ?_); (case tabs => (with_reducible repeat (first | apply Tabs.drewN | apply Tabs.drew | apply Tabs.alloc)); first | exact HT.out | exact HT.out.below (by repeat (first | (with_reducible first | exact HB.out | apply below_alloc | apply pw_below_drewN | apply below_drew1 | refine below_set ?_ GB44.out) | exact HB.out))); rintro e w54 ⟨rfl, hb⟩; refine ⟨_, rfl, ?_⟩; have n0_ := Aside0.mk (Go.Proofs.YthgfndbbbhbkeaaDoor.Mr.R_below (by (with_reducible repeat (first | apply Go.Proofs.YthgfndbbbhbkeaaDoor.Mr.R_alloc | apply Go.Proofs.YthgfndbbbhbkeaaDoor.Mr.R_drewN | apply Go.Proofs.YthgfndbbbhbkeaaDoor.Mr.R_drew)); exact HQ52.out) hb); have n1_ := Aside0.mk (below_step (by repeat (first | (with_reducible first | exact HB.out | apply below_alloc | apply pw_below_drewN | apply below_drew1 | refine below_set ?_ GB44.out) | exact HB.out)) hb); clear HO215; clear HB; have HO215 := n0_; have HB := n1_; clear n0_ n1_; (try clear hb); (try clear hb2); (try clear hk); (try clear hi)))
                                  go_ret
                                  exact ⟨by first | rfl | (simp [errW_none, errW_some] <;> rfl) | (simp only [← hji40]; first | rfl | (simp [errW_none, errW_some] <;> rfl)) | (simp [*, errW_none, errW_some] <;> rfl), by repeat (first | (with_reducible first | exact HB.out | apply below_alloc | apply pw_below_drewN | apply below_drew1) | exact HB.out)⟩
                              · rw [if_neg c47] at H
                                have c47b0 : (t211.toList == t204.toList) = false := beq_eq_false_iff_ne.mpr c47
                                have c47b1 : (t211.toList != t204.toList) = true := bne_iff_ne.mpr c47
                                as_aux_lemma =>
                                  obtain rfl := Option.some.inj H
                                  try go_wp2_with (first | ((with_reducible refine gate_callee (f := 23) rfl ?_); refine goesL_ (some 113) rfl rfl Tryd.func23 (by kernel_rfl) rfl #[.string t205] rfl (by (try simp only [List.map_toArray, List.map_cons, List.map_nil]); first | done | rfl | (simp only [List.length_drop, List.length_take]; rfl)) ?_; (with_reducible refine (impl_VerifyChecksum.calls kj29 t205 t211 true _ A36.out ?tabs).mono ?_); (case tabs => (with_reducible repeat (first | apply Tabs.drewN | apply Tabs.drew | apply Tabs.alloc)); first | exact HT.out | exact HT.out.below (by repeat (first | (with_reducible first | exact HB.out | apply below_alloc | apply pw_below_drewN | apply below_drew1) | exact HB.out))); rintro e w55 ⟨rfl, hb⟩; refine ⟨_, rfl, ?_⟩; have n0_ := Aside0.mk (below_step (by repeat (first | (with_reducible first | exact HB.out | apply below_alloc | apply pw_below_drewN | apply below_drew1) | exact HB.out)) hb); clear HB; have HB := n0_; clear n0_; (try clear hb); (try clear hb2); (try clear hk); (try clear hi)) | ((refine Go.Proofs.YthgfndbbbhbkeaaDoor.Mr.gate_conv (src := 9) (dst := 22) rfl ?_); refine Go.Proofs.YthgfndbbbhbkeaaDoor.Mr.conv_event 117 9 22 5 _ t205 rfl rfl rfl rfl Tryd.underlying9 Tryd.underlying22 Tryd.underlying5 (conv_bytes.le A37.out) ?_; intro v214 w56 ho0 hb; rw [conv_bytes.eq A37.out] at ho0; have n0_ := Aside0.mk (Go.Proofs.YthgfndbbbhbkeaaDoor.Mr.R_lower ho0 (below_size (by repeat (first | (with_reducible first | exact HB.out | apply below_alloc | apply pw_below_drewN | apply below_drew1) | exact HB.out)))); have n1_ := Aside0.mk (below_step (by repeat (first | (with_reducible first | exact HB.out | apply below_alloc | apply pw_below_drewN | apply below_drew1) | exact HB.out)) hb); clear HB; have HO215 := n0_; have HB := n1_; clear n0_ n1_; (try clear hb); (try clear hb2); (try clear hk); (try clear hi); (try clear ho0)) | ((with_reducible refine gate_callee (f := 24) rfl ?_); refine goesL_ (some 119) rfl rfl Tryd.func24 (by kernel_rfl) rfl #[.slice A0 l0.length c0, .int .i64 9] rfl (by (try simp only [List.map_toArray, List.map_cons, List.map_nil]); first | done | rfl | (simp only [List.length_drop, List.length_take]; rfl)) ?_; (with_reducible refine (laws_vAt.calls _ _ l0 9 t216 _ ?side1 ?side2 A38.out).mono ?_); (case side1 => repeat (first | exact (Kd.C_below HR0.out HB.out) | (with_reducible refine Kd.C_alloc ?_ _) | (with_reducible refine Kd.C_drewN ?_ _) | (with_reducible refine Kd.C_drew ?_))); (case side2 => exact HC0.out); rintro e w' ⟨rfl, ⟨nd, rfl⟩⟩; refine ⟨_, rfl, ?_⟩; (try (rw [drewN_self w56]; generalize hq_ : World.drewN w56 _ = w56; have n0_ : Aside0 (Go.Proofs.YthgfndbbbhbkeaaDoor.Mr.R w56 w.heap.size v214 t213) := ⟨by rw [← hq_]; exact (by (with_reducible repeat (first | apply Go.Proofs.YthgfndbbbhbkeaaDoor.Mr.R_alloc | apply Go.Proofs.YthgfndbbbhbkeaaDoor.Mr.R_drewN | apply Go.Proofs.YthgfndbbbhbkeaaDoor.Mr.R_drew)); exact HO215.out)⟩; have n1_ : Aside0 (Below w.heap.size w w56) := ⟨by rw [← hq_]; exact (by repeat (first | (with_reducible first | exact HB.out | apply below_alloc | apply pw_below_drewN | apply below_drew1) | exact HB.out))⟩; clear HO215 HB hq_; have HO215 := n0_; have HB := n1_; clear n0_ n1_)); obtain ⟨Ao57, co57, eo57⟩ := Go.Proofs.YthgfndbbbhbkeaaDoor.Mr.R_slice HO215.out; subst eo57))
                                  have n0_ := Aside0.mk (Go.Proofs.YthgfndbbbhbkeaaDoor.Mr.R_drew HO215.out)
                                  have n1_ := Aside0.mk (below_drew1 HB.out)
                                  clear HO215
                                  clear HB
                                  have HO215 := n0_
                                  have HB := n1_
                                  clear n0_ n1_
                                  have p217 : 0 ≤ ((ji40) : Int) := of_decide_eq_true (by first | (with_reducible assumption) | assumption)
                                  have q217 : (ji40) < (t213.length : Int) := of_decide_eq_true (by first | (with_reducible assumption) | assumption)
                                  obtain ⟨ad217, e217, hx217_0⟩ := Go.Proofs.YthgfndbbbhbkeaaDoor.Mr.at_ HO215.out (ji40) p217 q217
                                  cases e217
                                  replace p217 := eq_true p217
                                  replace q217 := eq_true q217
                                  refine start_ (n := 14) (S := fun w' => w'.cell? (ad217.add ((ji40)).toNat) = some (.int .u8 (rd t213 (ji40)))) (ds := [13]) #[false, false, false, false, false, false, false, false, false, false, false, false, false, false] (by kernel_rfl) rfl rfl (hx217_0) (fun hHeld => ?_); refine with_tabW laws_FnStrings.tab22 laws_FnStrings.bits22 (fun HT_ HW_ => ?_)
                                  generalize w56.drew = w58 at HO215 HB hx217_0 hHeld ⊢
                                  refine pure_ (i := 0) (N := some 123) (v := ?_) (a' := ?_) #[true, false, false, false, false, false, false, false, false, false, false, false, false, false] rfl rfl (any_of HT_.out (by kernel_rfl)) (fun _ _ _ h => h) (Or.inl ⟨by rfl, ?_⟩) ?_ ?_
                                  rotate_left
                                  · intro w'
                                    go_simp
                                    with_reducible rfl
                                  rotate_left
                                  · simp only [Act.put, List.setIfInBounds_toArray, List.set_cons_zero, List.set_cons_succ, i64_w, i32_w]
                                    rfl
                                  refine pure_ (i := 1) (N := some 124) (v := ?_) (a' := ?_) #[true, true, false, false, false, false, false, false, false, false, false, false, false, false] rfl rfl (any_of HT_.out (by kernel_rfl)) (fun _ _ _ h => h) (Or.inl ⟨by rfl, ?_⟩) ?_ ?_
                                  rotate_left
                                  · intro w'
                                    go_simp
                                    with_reducible rfl
                                  rotate_left
                                  · simp only [Act.put, List.setIfInBounds_toArray, List.set_cons_zero, List.set_cons_succ, i64_w, i32_w]
                                    rfl
                                  refine pure_ (i := 2) (N := some 125) (v := ?_) (a' := ?_) #[true, true, true, false, false, false, false, false, false, false, false, false, false, false] rfl rfl (any_of HT_.out (by kernel_rfl)) (fun _ _ _ h => h) (Or.inl ⟨by rfl, ?_⟩) ?_ ?_
                                  rotate_left
                                  · intro w'
                                    go_simp
                                    with_reducible rfl
                                  rotate_left
                                  · simp only [Act.put, List.setIfInBounds_toArray, List.set_cons_zero, List.set_cons_succ, i64_w, i32_w]
                                    rfl
                                  refine pure_ (i := 3) (N := some 126) (v := ?_) (a' := ?_) #[true, true, true, true, false, false, false, false, false, false, false, false, false, false] rfl rfl (any_of HT_.out (by kernel_rfl)) (fun _ _ _ h => h) (Or.inl ⟨by rfl, ?_⟩) ?_ ?_
                                  rotate_left
                                  · intro w'
                                    go_simp
                                    with_reducible rfl
                                  rotate_left
                                  · simp only [Act.put, List.setIfInBounds_toArray, List.set_cons_zero, List.set_cons_succ, i64_w, i32_w]
                                    rfl
                                  refine pure_ (i := 4) (N := some 127) (v := ?_) (a' := ?_) #[true, true, true, true, true, false, false, false, false, false, false, false, false, false] rfl rfl (any_of HT_.out (by kernel_rfl)) (fun _ _ _ h => h) (Or.inl ⟨by rfl, ?_⟩) ?_ ?_
                                  rotate_left
                                  · intro w'
                                    go_simp
                                    with_reducible rfl
                                  rotate_left
                                  · simp only [Act.put, List.setIfInBounds_toArray, List.set_cons_zero, List.set_cons_succ, i64_w, i32_w]
                                    rfl
                                  refine pure_ (i := 6) (N := some 129) (v := ?_) (a' := ?_) #[true, true, true, true, true, false, true, false, false, false, false, false, false, false] rfl rfl (any_of HT_.out (by kernel_rfl)) (fun _ _ _ h => h) (Or.inl ⟨by rfl, ?_⟩) ?_ ?_
                                  rotate_left
                                  · intro w'
                                    go_simp
                                    with_reducible rfl
                                  rotate_left
                                  · simp only [Act.put, List.setIfInBounds_toArray, List.set_cons_zero, List.set_cons_succ, i64_w, i32_w]
                                    rfl
                                  refine take_ (i := 5) (N := some 128) (v := ?_) (a' := ?_) #[true, true, true, true, true, true, true, false, false, false, false, false, false, false] rfl rfl (take_ofW HT_.out HW_.out (by kernel_rfl)) (fun _ _ _ h => h) (Or.inl ⟨by rfl, ?_⟩) hHeld ?_ ?_
                                  rotate_left
                                  · intro w' s0
                                    go_simp
                                    with_reducible rfl
                                  rotate_left
                                  · simp only [Act.put, List.setIfInBounds_toArray, List.set_cons_zero, List.set_cons_succ, i64_w, i32_w]
                                    rfl
                                  refine one_ (i := 7) (N := some 130) #[true, true, true, true, true, true, true, true, false, false, false, false, false, false] rfl rfl (one_of HT_.out (by kernel_rfl)) (by decide) (fun K hK => ?_)
                                  refine goes_ Tryd.func24 (by kernel_rfl) rfl #[.slice A0 l0.length c0, .int .i64 10] (by rfl) rfl rfl (by (try simp only [List.map_toArray, List.map_cons, List.map_nil]); first | done | rfl | (simp only [List.length_drop, List.length_take]; rfl)) ?_
                                  with_reducible refine (laws_vAt.calls _ _ l0 10 t218 _ ?side1 ?side2 A43.out).mono ?_
                                  (case side1 => repeat (first | exact (Kd.C_below HR0.out HB.out) | (with_reducible refine Kd.C_alloc ?_ _) | (with_reducible refine Kd.C_drewN ?_ _) | (with_reducible refine Kd.C_drew ?_)))
                                  (case side2 => exact HC0.out)
                                  rintro e w' ⟨rfl, ⟨nd, rfl⟩⟩
                                  refine ⟨_, rfl, ?_⟩
                                  have p44 : 0 ≤ ((ji40) : Int) := of_decide_eq_true (by first | (with_reducible assumption) | assumption)
                                  have q44 : ((ji40) : Int) < ((t213.length : Int) : Int) := of_decide_eq_true (by first | (with_reducible assumption) | assumption)
                                  obtain ⟨go44, co44, eo44, gb44, gl44, cl44, HG44⟩ := Go.Proofs.YthgfndbbbhbkeaaDoor.Mr.R_form HO215.out (by omega)
                                  (first | cases eo44 | (injection eo44 with ea_ en_ ec_; (first | subst ea_ | (injection ea_ with ea_; subst ea_)); subst ec_; clear en_))
                                  have GB44 := Aside0.mk gb44
                                  have GG44 := Aside0.mk HG44
                                  clear gb44 gl44 HG44
                                  (first | simp only [add_plain] at hx217_0 | skip)
                                  obtain ⟨hx44_0, hf44_0⟩ := Go.Proofs.YthgfndbbbhbkeaaDoor.Mr.R_celln HO215.out ((ji40) : Int) p44 q44
                                  replace p44 := eq_true p44
                                  replace q44 := eq_true q44
                                  have HP59 := Go.Proofs.YthgfndbbbhbkeaaDoor.Mr.R_putn (Go.Proofs.YthgfndbbbhbkeaaDoor.Mr.R_drewN HO215.out nd) ((ji40) : Int) (Go.bits .xor .u8 (rd t213 (ji40)) ((wrap64 (1 + (Int.tmod t218 255))) % 256))
                                  rw [← Ny219.out] at HP59
                                  have HQ59 := Aside0.mk HP59
                                  clear HP59
                                  refine hK.out _ _ (hHeld) (fun hHeld => ?_)
                                  clear hK K
                                  refine norm_ (a' := ?_) ?_ ?_
                                  rotate_left
                                  · show Act.put _ (some 130) _ = _
                                    simp only [Act.put, List.setIfInBounds_toArray, List.set_cons_zero, List.set_cons_succ, i64_w, i32_w]
                                    rfl
                                  refine pure_ (i := 8) (N := some 131) (v := ?_) (a' := ?_) #[true, true, true, true, true, true, true, true, true, false, false, false, false, false] rfl rfl (any_of HT_.out (by kernel_rfl)) (fun _ _ _ h => h) (Or.inl ⟨by rfl, ?_⟩) ?_ ?_
                                  rotate_left
                                  · intro w'
                                    go_simp
                                    with_reducible rfl
                                  rotate_left
                                  · simp only [Act.put, List.setIfInBounds_toArray, List.set_cons_zero, List.set_cons_succ, i64_w, i32_w]
                                    rfl
                                  refine pure_ (i := 9) (N := some 132) (v := ?_) (a' := ?_) #[true, true, true, true, true, true, true, true, true, true, false, false, false, false] rfl rfl (any_of HT_.out (by kernel_rfl)) (fun _ _ _ h => h) (Or.inl ⟨by rfl, ?_⟩) ?_ ?_
                                  rotate_left
                                  · intro w'
                                    go_simp
                                    with_reducible rfl
                                  rotate_left
                                  · simp only [Act.put, List.setIfInBounds_toArray, List.set_cons_zero, List.set_cons_succ, i64_w, i32_w]
                                    rfl
                                  refine pure_ (i := 10) (N := some 133) (v := ?_) (a' := ?_) #[true, true, true, true, true, true, true, true, true, true, true, false, false, false] rfl rfl (any_of HT_.out (by kernel_rfl)) (fun _ _ _ h => h) (Or.inl ⟨by rfl, ?_⟩) ?_ ?_
                                  rotate_left
                                  · intro w'
                                    go_simp
                                    with_reducible rfl
                                  rotate_left
                                  · simp only [Act.put, List.setIfInBounds_toArray, List.set_cons_zero, List.set_cons_succ, i64_w, i32_w]
                                    rfl
                                  refine pure_ (i := 11) (N := some 134) (v := ?_) (a' := ?_) #[true, true, true, true, true, true, true, true, true, true, true, true, false, false] rfl rfl (any_of HT_.out (by kernel_rfl)) (fun _ _ _ h => h) (Or.inl ⟨by rfl, ?_⟩) ?_ ?_
                                  rotate_left
                                  · intro w'
                                    go_simp
                                    with_reducible rfl
                                  rotate_left
                                  · simp only [Act.put, List.setIfInBounds_toArray, List.set_cons_zero, List.set_cons_succ, i64_w, i32_w]
                                    rfl
                                  refine pure_ (i := 12) (N := some 135) (v := ?_) (a' := ?_) #[true, true, true, true, true, true, true, true, true, true, true, true, true, false] rfl rfl (any_of HT_.out (by kernel_rfl)) (fun _ _ _ h => h) (Or.inl ⟨by rfl, ?_⟩) ?_ ?_
                                  rotate_left
                                  · intro w'
                                    go_simp
                                    with_reducible rfl
                                  rotate_left
                                  · simp only [Act.put, List.setIfInBounds_toArray, List.set_cons_zero, List.set_cons_succ, i64_w, i32_w]
                                    rfl
                                  refine last_ (i := 13) (N := none) #[true, true, true, true, true, true, true, true, true, true, true, true, true, true] rfl rfl (one_of HT_.out (by kernel_rfl)) (by decide) (fun K hK => ?_)
                                  refine skip_ (w1 := ?_) (by rfl) rfl ?_ ?_
                                  rotate_left
                                  · go_simp
                                    rfl
                                  refine hK.out _ _ ?_
                                  clear hK K
                                  refine done_ (done_of HT_.out (by kernel_rfl)) ?_
                                  have hcv60 := Go.Proofs.YthgfndbbbhbkeaaDoor.Mr.conv (P := Tryd.prog) Tryd.underlying22 Tryd.underlying5 Tryd.underlying9 HQ59.out
                                  try go_wp2
                                  rw [hcv60]
                                  try go_wp2_with (first | ((with_reducible refine gate_callee (f := 23) rfl ?_); refine goesL_ (some 139) rfl rfl Tryd.func23 (by kernel_rfl) rfl #[.string (strOfNums y219)] rfl (by (try simp only [List.map_toArray, List.map_cons, List.map_nil]); first | done | rfl | (simp only [List.length_drop, List.length_take]; rfl)) ?_; (with_reducible refine (impl_VerifyChecksum.calls kj29 (strOfNums y219) t220 t221 _ A45.out ?tabs).mono ?_); (case tabs => (with_reducible repeat (first | apply Tabs.drewN | apply Tabs.drew | apply Tabs.alloc)); first | exact HT.out | exact HT.out.below (by repeat (first | (with_reducible first | exact HB.out | apply below_alloc | apply pw_below_drewN | apply below_drew1 | refine below_set ?_ GB44.out) | exact HB.out))); rintro e w61 ⟨rfl, hb⟩; refine ⟨_, rfl, ?_⟩; have n0_ := Aside0.mk (Go.Proofs.YthgfndbbbhbkeaaDoor.Mr.R_below (by (with_reducible repeat (first | apply Go.Proofs.YthgfndbbbhbkeaaDoor.Mr.R_alloc | apply Go.Proofs.YthgfndbbbhbkeaaDoor.Mr.R_drewN | apply Go.Proofs.YthgfndbbbhbkeaaDoor.Mr.R_drew)); exact HQ59.out) hb); have n1_ := Aside0.mk (below_step (by repeat (first | (with_reducible first | exact HB.out | apply below_alloc | apply pw_below_drewN | apply below_drew1 | refine below_set ?_ GB44.out) | exact HB.out)) hb); clear HO215; clear HB; have HO215 := n0_; have HB := n1_; clear n0_ n1_; (try clear hb); (try clear hb2); (try clear hk); (try clear hi)))
                                  go_ret
                                  exact ⟨by first | rfl | (simp [errW_none, errW_some] <;> rfl) | (simp only [← hji40]; first | rfl | (simp [errW_none, errW_some] <;> rfl)) | (simp [*, errW_none, errW_some] <;> rfl), by repeat (first | (with_reducible first | exact HB.out | apply below_alloc | apply pw_below_drewN | apply below_drew1) | exact HB.out)⟩
                            · replace c46 := Bool.eq_false_iff.mpr c46
                              subst c46
                              have H1 : (some false) = some r := by rw [if_neg (show ¬ (false = true) by decide)] at H; exact H
                              clear H
                              have H := H1
                              clear H1
                              as_aux_lemma =>
                                obtain rfl := Option.some.inj H
                                try go_wp2_with (first | ((with_reducible refine gate_callee (f := 23) rfl ?_); refine goesL_ (some 113) rfl rfl Tryd.func23 (by kernel_rfl) rfl #[.string t205] rfl (by (try simp only [List.map_toArray, List.map_cons, List.map_nil]); first | done | rfl | (simp only [List.length_drop, List.length_take]; rfl)) ?_; (with_reducible refine (impl_VerifyChecksum.calls kj29 t205 t211 false _ A36.out ?tabs).mono ?_); (case tabs => (with_reducible repeat (first | apply Tabs.drewN | apply Tabs.drew | apply Tabs.alloc)); first | exact HT.out | exact HT.out.below (by repeat (first | (with_reducible first | exact HB.out | apply below_alloc | apply pw_below_drewN | apply below_drew1) | exact HB.out))); rintro e w62 ⟨rfl, hb⟩; refine ⟨_, rfl, ?_⟩; have n0_ := Aside0.mk (below_step (by repeat (first | (with_reducible first | exact HB.out | apply below_alloc | apply pw_below_drewN | apply below_drew1) | exact HB.out)) hb); clear HB; have HB := n0_; clear n0_; (try clear hb); (try clear hb2); (try clear hk); (try clear hi)) | ((refine Go.Proofs.YthgfndbbbhbkeaaDoor.Mr.gate_conv (src := 9) (dst := 22) rfl ?_); refine Go.Proofs.YthgfndbbbhbkeaaDoor.Mr.conv_event 117 9 22 5 _ t205 rfl rfl rfl rfl Tryd.underlying9 Tryd.underlying22 Tryd.underlying5 (conv_bytes.le A37.out) ?_; intro v214 w63 ho0 hb; rw [conv_bytes.eq A37.out] at ho0; have n0_ := Aside0.mk (Go.Proofs.YthgfndbbbhbkeaaDoor.Mr.R_lower ho0 (below_size (by repeat (first | (with_reducible first | exact HB.out | apply below_alloc | apply pw_below_drewN | apply below_drew1) | exact HB.out)))); have n1_ := Aside0.mk (below_step (by repeat (first | (with_reducible first | exact HB.out | apply below_alloc | apply pw_below_drewN | apply below_drew1) | exact HB.out)) hb); clear HB; have HO215 := n0_; have HB := n1_; clear n0_ n1_; (try clear hb); (try clear hb2); (try clear hk); (try clear hi); (try clear ho0)) | ((with_reducible refine gate_callee (f := 24) rfl ?_); refine goesL_ (some 119) rfl rfl Tryd.func24 (by kernel_rfl) rfl #[.slice A0 l0.length c0, .int .i64 9] rfl (by (try simp only [List.map_toArray, List.map_cons, List.map_nil]); first | done | rfl | (simp only [List.length_drop, List.length_take]; rfl)) ?_; (with_reducible refine (laws_vAt.calls _ _ l0 9 t216 _ ?side1 ?side2 A38.out).mono ?_); (case side1 => repeat (first | exact (Kd.C_below HR0.out HB.out) | (with_reducible refine Kd.C_alloc ?_ _) | (with_reducible refine Kd.C_drewN ?_ _) | (with_reducible refine Kd.C_drew ?_))); (case side2 => exact HC0.out); rintro e w' ⟨rfl, ⟨nd, rfl⟩⟩; refine ⟨_, rfl, ?_⟩; (try (rw [drewN_self w63]; generalize hq_ : World.drewN w63 _ = w63; have n0_ : Aside0 (Go.Proofs.YthgfndbbbhbkeaaDoor.Mr.R w63 w.heap.size v214 t213) := ⟨by rw [← hq_]; exact (by (with_reducible repeat (first | apply Go.Proofs.YthgfndbbbhbkeaaDoor.Mr.R_alloc | apply Go.Proofs.YthgfndbbbhbkeaaDoor.Mr.R_drewN | apply Go.Proofs.YthgfndbbbhbkeaaDoor.Mr.R_drew)); exact HO215.out)⟩; have n1_ : Aside0 (Below w.heap.size w w63) := ⟨by rw [← hq_]; exact (by repeat (first | (with_reducible first | exact HB.out | apply below_alloc | apply pw_below_drewN | apply below_drew1) | exact HB.out))⟩; clear HO215 HB hq_; have HO215 := n0_; have HB := n1_; clear n0_ n1_)); obtain ⟨Ao64, co64, eo64⟩ := Go.Proofs.YthgfndbbbhbkeaaDoor.Mr.R_slice HO215.out; subst eo64))
                                have n0_ := Aside0.mk (Go.Proofs.YthgfndbbbhbkeaaDoor.Mr.R_drew HO215.out)
                                have n1_ := Aside0.mk (below_drew1 HB.out)
                                clear HO215
                                clear HB
                                have HO215 := n0_
                                have HB := n1_
                                clear n0_ n1_
                                have p217 : 0 ≤ ((ji40) : Int) := of_decide_eq_true (by first | (with_reducible assumption) | assumption)
                                have q217 : (ji40) < (t213.length : Int) := of_decide_eq_true (by first | (with_reducible assumption) | assumption)
                                obtain ⟨ad217, e217, hx217_0⟩ := Go.Proofs.YthgfndbbbhbkeaaDoor.Mr.at_ HO215.out (ji40) p217 q217
                                cases e217
                                replace p217 := eq_true p217
                                replace q217 := eq_true q217
                                refine start_ (n := 14) (S := fun w' => w'.cell? (ad217.add ((ji40)).toNat) = some (.int .u8 (rd t213 (ji40)))) (ds := [13]) #[false, false, false, false, false, false, false, false, false, false, false, false, false, false] (by kernel_rfl) rfl rfl (hx217_0) (fun hHeld => ?_); refine with_tabW laws_FnStrings.tab22 laws_FnStrings.bits22 (fun HT_ HW_ => ?_)
                                generalize w63.drew = w65 at HO215 HB hx217_0 hHeld ⊢
                                refine pure_ (i := 0) (N := some 123) (v := ?_) (a' := ?_) #[true, false, false, false, false, false, false, false, false, false, false, false, false, false] rfl rfl (any_of HT_.out (by kernel_rfl)) (fun _ _ _ h => h) (Or.inl ⟨by rfl, ?_⟩) ?_ ?_
                                rotate_left
                                · intro w'
                                  go_simp
                                  with_reducible rfl
                                rotate_left
                                · simp only [Act.put, List.setIfInBounds_toArray, List.set_cons_zero, List.set_cons_succ, i64_w, i32_w]
                                  rfl
                                refine pure_ (i := 1) (N := some 124) (v := ?_) (a' := ?_) #[true, true, false, false, false, false, false, false, false, false, false, false, false, false] rfl rfl (any_of HT_.out (by kernel_rfl)) (fun _ _ _ h => h) (Or.inl ⟨by rfl, ?_⟩) ?_ ?_
                                rotate_left
                                · intro w'
                                  go_simp
                                  with_reducible rfl
                                rotate_left
                                · simp only [Act.put, List.setIfInBounds_toArray, List.set_cons_zero, List.set_cons_succ, i64_w, i32_w]
                                  rfl
                                refine pure_ (i := 2) (N := some 125) (v := ?_) (a' := ?_) #[true, true, true, false, false, false, false, false, false, false, false, false, false, false] rfl rfl (any_of HT_.out (by kernel_rfl)) (fun _ _ _ h => h) (Or.inl ⟨by rfl, ?_⟩) ?_ ?_
                                rotate_left
                                · intro w'
                                  go_simp
                                  with_reducible rfl
                                rotate_left
                                · simp only [Act.put, List.setIfInBounds_toArray, List.set_cons_zero, List.set_cons_succ, i64_w, i32_w]
                                  rfl
                                refine pure_ (i := 3) (N := some 126) (v := ?_) (a' := ?_) #[true, true, true, true, false, false, false, false, false, false, false, false, false, false] rfl rfl (any_of HT_.out (by kernel_rfl)) (fun _ _ _ h => h) (Or.inl ⟨by rfl, ?_⟩) ?_ ?_
                                rotate_left
                                · intro w'
                                  go_simp
                                  with_reducible rfl
                                rotate_left
                                · simp only [Act.put, List.setIfInBounds_toArray, List.set_cons_zero, List.set_cons_succ, i64_w, i32_w]
                                  rfl
                                refine pure_ (i := 4) (N := some 127) (v := ?_) (a' := ?_) #[true, true, true, true, true, false, false, false, false, false, false, false, false, false] rfl rfl (any_of HT_.out (by kernel_rfl)) (fun _ _ _ h => h) (Or.inl ⟨by rfl, ?_⟩) ?_ ?_
                                rotate_left
                                · intro w'
                                  go_simp
                                  with_reducible rfl
                                rotate_left
                                · simp only [Act.put, List.setIfInBounds_toArray, List.set_cons_zero, List.set_cons_succ, i64_w, i32_w]
                                  rfl
                                refine pure_ (i := 6) (N := some 129) (v := ?_) (a' := ?_) #[true, true, true, true, true, false, true, false, false, false, false, false, false, false] rfl rfl (any_of HT_.out (by kernel_rfl)) (fun _ _ _ h => h) (Or.inl ⟨by rfl, ?_⟩) ?_ ?_
                                rotate_left
                                · intro w'
                                  go_simp
                                  with_reducible rfl
                                rotate_left
                                · simp only [Act.put, List.setIfInBounds_toArray, List.set_cons_zero, List.set_cons_succ, i64_w, i32_w]
                                  rfl
                                refine take_ (i := 5) (N := some 128) (v := ?_) (a' := ?_) #[true, true, true, true, true, true, true, false, false, false, false, false, false, false] rfl rfl (take_ofW HT_.out HW_.out (by kernel_rfl)) (fun _ _ _ h => h) (Or.inl ⟨by rfl, ?_⟩) hHeld ?_ ?_
                                rotate_left
                                · intro w' s0
                                  go_simp
                                  with_reducible rfl
                                rotate_left
                                · simp only [Act.put, List.setIfInBounds_toArray, List.set_cons_zero, List.set_cons_succ, i64_w, i32_w]
                                  rfl
                                refine one_ (i := 7) (N := some 130) #[true, true, true, true, true, true, true, true, false, false, false, false, false, false] rfl rfl (one_of HT_.out (by kernel_rfl)) (by decide) (fun K hK => ?_)
                                refine goes_ Tryd.func24 (by kernel_rfl) rfl #[.slice A0 l0.length c0, .int .i64 10] (by rfl) rfl rfl (by (try simp only [List.map_toArray, List.map_cons, List.map_nil]); first | done | rfl | (simp only [List.length_drop, List.length_take]; rfl)) ?_
                                with_reducible refine (laws_vAt.calls _ _ l0 10 t218 _ ?side1 ?side2 A43.out).mono ?_
                                (case side1 => repeat (first | exact (Kd.C_below HR0.out HB.out) | (with_reducible refine Kd.C_alloc ?_ _) | (with_reducible refine Kd.C_drewN ?_ _) | (with_reducible refine Kd.C_drew ?_)))
                                (case side2 => exact HC0.out)
                                rintro e w' ⟨rfl, ⟨nd, rfl⟩⟩
                                refine ⟨_, rfl, ?_⟩
                                have p44 : 0 ≤ ((ji40) : Int) := of_decide_eq_true (by first | (with_reducible assumption) | assumption)
                                have q44 : ((ji40) : Int) < ((t213.length : Int) : Int) := of_decide_eq_true (by first | (with_reducible assumption) | assumption)
                                obtain ⟨go44, co44, eo44, gb44, gl44, cl44, HG44⟩ := Go.Proofs.YthgfndbbbhbkeaaDoor.Mr.R_form HO215.out (by omega)
                                (first | cases eo44 | (injection eo44 with ea_ en_ ec_; (first | subst ea_ | (injection ea_ with ea_; subst ea_)); subst ec_; clear en_))
                                have GB44 := Aside0.mk gb44
                                have GG44 := Aside0.mk HG44
                                clear gb44 gl44 HG44
                                (first | simp only [add_plain] at hx217_0 | skip)
                                obtain ⟨hx44_0, hf44_0⟩ := Go.Proofs.YthgfndbbbhbkeaaDoor.Mr.R_celln HO215.out ((ji40) : Int) p44 q44
                                replace p44 := eq_true p44
                                replace q44 := eq_true q44
                                have HP66 := Go.Proofs.YthgfndbbbhbkeaaDoor.Mr.R_putn (Go.Proofs.YthgfndbbbhbkeaaDoor.Mr.R_drewN HO215.out nd) ((ji40) : Int) (Go.bits .xor .u8 (rd t213 (ji40)) ((wrap64 (1 + (Int.tmod t218 255))) % 256))
                                rw [← Ny219.out] at HP66
                                have HQ66 := Aside0.mk HP66
                                clear HP66
                                refine hK.out _ _ (hHeld) (fun hHeld => ?_)
                                clear hK K
                                refine norm_ (a' := ?_) ?_ ?_
                                rotate_left
                                · show Act.put _ (some 130) _ = _
                                  simp only [Act.put, List.setIfInBounds_toArray, List.set_cons_zero, List.set_cons_succ, i64_w, i32_w]
                                  rfl
                                refine pure_ (i := 8) (N := some 131) (v := ?_) (a' := ?_) #[true, true, true, true, true, true, true, true, true, false, false, false, false, false] rfl rfl (any_of HT_.out (by kernel_rfl)) (fun _ _ _ h => h) (Or.inl ⟨by rfl, ?_⟩) ?_ ?_
                                rotate_left
                                · intro w'
                                  go_simp
                                  with_reducible rfl
                                rotate_left
                                · simp only [Act.put, List.setIfInBounds_toArray, List.set_cons_zero, List.set_cons_succ, i64_w, i32_w]
                                  rfl
                                refine pure_ (i := 9) (N := some 132) (v := ?_) (a' := ?_) #[true, true, true, true, true, true, true, true, true, true, false, false, false, false] rfl rfl (any_of HT_.out (by kernel_rfl)) (fun _ _ _ h => h) (Or.inl ⟨by rfl, ?_⟩) ?_ ?_
                                rotate_left
                                · intro w'
                                  go_simp
                                  with_reducible rfl
                                rotate_left
                                · simp only [Act.put, List.setIfInBounds_toArray, List.set_cons_zero, List.set_cons_succ, i64_w, i32_w]
                                  rfl
                                refine pure_ (i := 10) (N := some 133) (v := ?_) (a' := ?_) #[true, true, true, true, true, true, true, true, true, true, true, false, false, false] rfl rfl (any_of HT_.out (by kernel_rfl)) (fun _ _ _ h => h) (Or.inl ⟨by rfl, ?_⟩) ?_ ?_
                                rotate_left
                                · intro w'
                                  go_simp
                                  with_reducible rfl
                                rotate_left
                                · simp only [Act.put, List.setIfInBounds_toArray, List.set_cons_zero, List.set_cons_succ, i64_w, i32_w]
                                  rfl
                                refine pure_ (i := 11) (N := some 134) (v := ?_) (a' := ?_) #[true, true, true, true, true, true, true, true, true, true, true, true, false, false] rfl rfl (any_of HT_.out (by kernel_rfl)) (fun _ _ _ h => h) (Or.inl ⟨by rfl, ?_⟩) ?_ ?_
                                rotate_left
                                · intro w'
                                  go_simp
                                  with_reducible rfl
                                rotate_left
                                · simp only [Act.put, List.setIfInBounds_toArray, List.set_cons_zero, List.set_cons_succ, i64_w, i32_w]
                                  rfl
                                refine pure_ (i := 12) (N := some 135) (v := ?_) (a' := ?_) #[true, true, true, true, true, true, true, true, true, true, true, true, true, false] rfl rfl (any_of HT_.out (by kernel_rfl)) (fun _ _ _ h => h) (Or.inl ⟨by rfl, ?_⟩) ?_ ?_
                                rotate_left
                                · intro w'
                                  go_simp
                                  with_reducible rfl
                                rotate_left
                                · simp only [Act.put, List.setIfInBounds_toArray, List.set_cons_zero, List.set_cons_succ, i64_w, i32_w]
                                  rfl
                                refine last_ (i := 13) (N := none) #[true, true, true, true, true, true, true, true, true, true, true, true, true, true] rfl rfl (one_of HT_.out (by kernel_rfl)) (by decide) (fun K hK => ?_)
                                refine skip_ (w1 := ?_) (by rfl) rfl ?_ ?_
                                rotate_left
                                · go_simp
                                  rfl
                                refine hK.out _ _ ?_
                                clear hK K
                                refine done_ (done_of HT_.out (by kernel_rfl)) ?_
                                have hcv67 := Go.Proofs.YthgfndbbbhbkeaaDoor.Mr.conv (P := Tryd.prog) Tryd.underlying22 Tryd.underlying5 Tryd.underlying9 HQ66.out
                                try go_wp2
                                rw [hcv67]
                                try go_wp2_with (first | ((with_reducible refine gate_callee (f := 23) rfl ?_); refine goesL_ (some 139) rfl rfl Tryd.func23 (by kernel_rfl) rfl #[.string (strOfNums y219)] rfl (by (try simp only [List.map_toArray, List.map_cons, List.map_nil]); first | done | rfl | (simp only [List.length_drop, List.length_take]; rfl)) ?_; (with_reducible refine (impl_VerifyChecksum.calls kj29 (strOfNums y219) t220 t221 _ A45.out ?tabs).mono ?_); (case tabs => (with_reducible repeat (first | apply Tabs.drewN | apply Tabs.drew | apply Tabs.alloc)); first | exact HT.out | exact HT.out.below (by repeat (first | (with_reducible first | exact HB.out | apply below_alloc | apply pw_below_drewN | apply below_drew1 | refine below_set ?_ GB44.out) | exact HB.out))); rintro e w68 ⟨rfl, hb⟩; refine ⟨_, rfl, ?_⟩; have n0_ := Aside0.mk (Go.Proofs.YthgfndbbbhbkeaaDoor.Mr.R_below (by (with_reducible repeat (first | apply Go.Proofs.YthgfndbbbhbkeaaDoor.Mr.R_alloc | apply Go.Proofs.YthgfndbbbhbkeaaDoor.Mr.R_drewN | apply Go.Proofs.YthgfndbbbhbkeaaDoor.Mr.R_drew)); exact HQ66.out) hb); have n1_ := Aside0.mk (below_step (by repeat (first | (with_reducible first | exact HB.out | apply below_alloc | apply pw_below_drewN | apply below_drew1 | refine below_set ?_ GB44.out) | exact HB.out)) hb); clear HO215; clear HB; have HO215 := n0_; have HB := n1_; clear n0_ n1_; (try clear hb); (try clear hb2); (try clear hk); (try clear hi)))
                                go_ret
                                exact ⟨by first | rfl | (simp [errW_none, errW_some] <;> rfl) | (simp only [← hji40]; first | rfl | (simp [errW_none, errW_some] <;> rfl)) | (simp [*, errW_none, errW_some] <;> rfl), by repeat (first | (with_reducible first | exact HB.out | apply below_alloc | apply pw_below_drewN | apply below_drew1) | exact HB.out)⟩
                          · rw [if_neg c42] at H
                            exact absurd H (by simp)
                        · rw [if_neg c41] at H
                          exact absurd H (by simp)
                    · replace c35 := Bool.eq_false_iff.mpr c35
                      subst c35
                      have H1 : (some (t205.toList == ([] : List UInt8))) = some r := by rw [if_neg (show ¬ (false = true) by decide)] at H; exact H
                      clear H
                      have H := H1
                      clear H1
                      as_aux_lemma =>
                        obtain rfl := Option.some.inj H
                        go_wp2
                        go_ret
                        exact ⟨by first | rfl | (simp [errW_none, errW_some] <;> rfl) | (simp [*, errW_none, errW_some] <;> rfl), by repeat (first | (with_reducible first | exact HB.out | apply below_alloc | apply pw_below_drewN | apply below_drew1) | exact HB.out)⟩


end Go.Proofs.YthgfndbbbhbkeaaDoor.PFnStrings
