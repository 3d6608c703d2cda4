-- Made by wip/pr.py of this repo over the kit's print (some contracts by hand).
import Derived.Test.YtgnmomdgfamhnaaSq
import Derived.Test.YtgnmomdgfamhnaaPFnKitsx0
import Derived.Test.YtgnmomdgfamhnaaPFnKitsx3
import Derived.Test.YtgnmomdgfamhnaaPFnKitsx4
namespace Go.Proofs.Ytgnmomdgfamhnaa.PFnKits
open Go.RowKit Go.Proofs.YtgnmomdgfamhnaaW.PrintWords Go.Proofs.YtgnmomdgfamhnaaW.PrintLast Go.Proofs.YtgnmomdgfamhnaaW.PrintMore
attribute [local go_sem] max2_int min2_int max_two min_two max_three min_three max_four min_four   -- for this text's walks alone
set_option linter.unusedVariables false
set_option linter.unusedSimpArgs false

/-! ### spec_HowToWeigh: function 30 -/
mutual
def spec_HowToWeigh.j0 : Nat → List Int → Int → Bool → Option (List Int × Bool)
  | 0, _, _, _ => none
  | k + 1, x0, x1, x18 => if x18 = true then (some ((([] : List Int)), false)) else ((spec_l3All.f k (x0.length : Int)).bind fun t226 => (spec_HowToWeigh.l0 k x0 x1 t226 (([] : List Int)) (wrap64 ((x0.length : Int) + 1)) 0))
def spec_HowToWeigh.l0 : Nat → List Int → Int → List (List Int) → List Int → Int → Int → Option (List Int × Bool)
  | 0, _, _, _, _, _, _ => none
  | k + 1, x0, x1, x6, x7, x8, x9 => if x9 < (x6.length : Int) then (if 0 ≤ x9 then ((spec_l3Weigh.f k x0 (rd_L3 x6 x9)).bind fun bt233 => (if bt233.1 = x1 then (if bt233.2 < x8 then (spec_HowToWeigh.l0 k x0 x1 x6 (rd_L3 x6 x9) bt233.2 (wrap64 (x9 + 1))) else (spec_HowToWeigh.l0 k x0 x1 x6 x7 x8 (wrap64 (x9 + 1)))) else (spec_HowToWeigh.l0 k x0 x1 x6 x7 x8 (wrap64 (x9 + 1))))) else (none)) else (some (x7, decide ((x7.length : Int) > 0)))
end
def spec_HowToWeigh.f (k : Nat) (l0 : List Int) (a1 : Int) : Option (List Int × Bool) := (spec_l3Kit.f k l0).bind fun t222 => (if t222 = true then (spec_HowToWeigh.j0 k l0 a1 (decide (a1 < 1))) else (spec_HowToWeigh.j0 k l0 a1 true))
theorem spec_HowToWeigh.mono_l : ∀ k, (∀ y0 y1 y2, LeO (spec_HowToWeigh.j0 k y0 y1 y2) (spec_HowToWeigh.j0 (k + 1) y0 y1 y2)) ∧ (∀ y0 y1 y2 y3 y4 y5, LeO (spec_HowToWeigh.l0 k y0 y1 y2 y3 y4 y5) (spec_HowToWeigh.l0 (k + 1) y0 y1 y2 y3 y4 y5))
  | 0 => ⟨fun _ _ _ r h => by simp [spec_HowToWeigh.j0] at h, fun _ _ _ _ _ _ r h => by simp [spec_HowToWeigh.l0] at h⟩
  | k + 1 => by
    obtain ⟨ih0, ih1⟩ := spec_HowToWeigh.mono_l k
    refine ⟨?_, ?_⟩
    · intro y0 y1 y2
      unfold spec_HowToWeigh.j0
      repeat' first
      | (with_reducible exact ih0 _ _ _)
      | (with_reducible exact ih1 _ _ _ _ _ _)
      | (with_reducible exact spec_l3All.mono _ _)
      | (with_reducible exact spec_l3Kit.mono _ _)
      | (with_reducible exact spec_l3Weigh.mono _ _ _)
      | (with_reducible exact LeO.refl _)
      | (with_reducible exact LeO.none _)
      | (with_reducible refine LeO.ite ?_ ?_)
      | (with_reducible refine LeO.bind ?_ (fun _ => ?_))
      | exact ih0 _ _ _
      | exact ih1 _ _ _ _ _ _
      | exact spec_l3All.mono _ _
      | exact spec_l3Kit.mono _ _
      | exact spec_l3Weigh.mono _ _ _
      | exact LeO.none _
      | refine LeO.ite ?_ ?_
      | refine LeO.bind ?_ (fun _ => ?_)
    · intro y0 y1 y2 y3 y4 y5
      unfold spec_HowToWeigh.l0
      repeat' first
      | (with_reducible exact ih0 _ _ _)
      | (with_reducible exact ih1 _ _ _ _ _ _)
      | (with_reducible exact spec_l3All.mono _ _)
      | (with_reducible exact spec_l3Kit.mono _ _)
      | (with_reducible exact spec_l3Weigh.mono _ _ _)
      | (with_reducible exact LeO.refl _)
      | (with_reducible exact LeO.none _)
      | (with_reducible refine LeO.ite ?_ ?_)
      | (with_reducible refine LeO.bind ?_ (fun _ => ?_))
      | exact ih0 _ _ _
      | exact ih1 _ _ _ _ _ _
      | exact spec_l3All.mono _ _
      | exact spec_l3Kit.mono _ _
      | exact spec_l3Weigh.mono _ _ _
      | exact LeO.none _
      | refine LeO.ite ?_ ?_
      | refine LeO.bind ?_ (fun _ => ?_)
theorem spec_HowToWeigh.mono : ∀ a0 a1 k, LeO (spec_HowToWeigh.f k a0 a1) (spec_HowToWeigh.f (k + 1) a0 a1) := by
  intro a0 a1 k
  obtain ⟨ih0, ih1⟩ := spec_HowToWeigh.mono_l k
  unfold spec_HowToWeigh.f
  repeat' first
      | (with_reducible exact ih0 _ _ _)
      | (with_reducible exact ih1 _ _ _ _ _ _)
      | (with_reducible exact spec_l3All.mono _ _)
      | (with_reducible exact spec_l3Kit.mono _ _)
      | (with_reducible exact spec_l3Weigh.mono _ _ _)
      | (with_reducible exact LeO.refl _)
      | (with_reducible exact LeO.none _)
      | (with_reducible refine LeO.ite ?_ ?_)
      | (with_reducible refine LeO.bind ?_ (fun _ => ?_))
      | exact ih0 _ _ _
      | exact ih1 _ _ _ _ _ _
      | exact spec_l3All.mono _ _
      | exact spec_l3Kit.mono _ _
      | exact spec_l3Weigh.mono _ _ _
      | exact LeO.none _
      | refine LeO.ite ?_ ?_
      | refine LeO.bind ?_ (fun _ => ?_)
/-- An element of rows that are owned is a row that is owned. -/
theorem spec_HowToWeigh.rows_at {W : World} {b n c : Nat} {ad : Addr} {ok : Nat → Prop} {xs : List (List Int)} (h : Kd.R (Kd.slice 3 (Kd.int .i64)) 25 W b ok (.slice (some ad) n c) xs) (i : Int) (h0 : 0 ≤ i) (h1 : i < (xs.length : Int)) {A : Option Addr} {m c' : Nat} (hc : W.cell? (ad.add i.toNat) = some (.slice A m c')) : Kd.R (Kd.int .i64) 3 W b (fun _ => True) (.slice A m c') (rd_L3 xs i) := by
  obtain ⟨hn, _, _⟩ := Kd.R_reads' h
  obtain ⟨g, cap, e, _, _, _⟩ := Kd.R_form h (by omega)
  injection e with e1 e2 e3
  injection e1 with e1
  subst e1
  obtain ⟨cs, hl, hM, hcell, _⟩ := Kd.R_elem h ([] : List Int) i h0 (by omega)
  obtain ⟨v, hv, hr⟩ := hM
  subst hv
  have hq := hcell 0 v rfl
  rw [show (Kd.slice 3 (Kd.int .i64)).sz = 1 from rfl, Nat.mul_one, Nat.add_zero] at hq
  rw [add_plain] at hc
  have := Option.some.inj (hq.symm.trans hc)
  subst this
  exact Kd.R_mono hr (fun _ _ => trivial)
set_option maxHeartbeats 8000000 in
set_option maxRecDepth 100000 in
theorem spec_HowToWeigh.calls (k : Nat) (A0 : Option Addr) (c0 : Nat) (l0 : List Int) (a1 : Int) (r1 : List Int) (r2 : Bool) (w : World) (hr0 : Kd.C (Kd.int .i64) w A0 l0.length l0) (hc0 : l0.length ≤ c0) (h : spec_HowToWeigh.f k l0 a1 = some (r1, r2)) :
    Calls Try.prog 30 #[.slice A0 l0.length c0, .int .i64 a1] w fun e w' => ∃ v0_ : Value, e = .returned (.tuple #[v0_, .bool r2]) ∧ Kd.R (Kd.int .i64) 3 w' w.heap.size (fun _ => True) v0_ r1 ∧ Below w.heap.size w w' := by
  have HR0 := Aside0.mk hr0
  have HC0 := Aside0.mk hc0
  clear hr0 hc0
  have HB := Aside0.mk (Below.refl w.heap.size w)
  have H : ((spec_l3Kit.f k l0).bind fun t222 => (if t222 = true then (spec_HowToWeigh.j0 k l0 a1 (decide (a1 < 1))) else (spec_HowToWeigh.j0 k l0 a1 true))) = some (r1, r2) := h
  clear h
  have HC3 := Aside0.mk H
  clear H
  go_enter Try.func30, Try.ntmps30
  go_upto_region 1 with (fail)
  go_cut [18] (fun v18 wc => ∃ (kq : Nat) (x18_2 : Bool), v18 = .bool x18_2 ∧ Aside0 (spec_HowToWeigh.j0 kq l0 a1 x18_2 = some (r1, r2)) ∧ Aside0 (kq ≤ k) ∧ Aside0 (Below w.heap.size w wc))
  case first =>
    have H := HC3.out
    clear HC3
    replace H := Option.bind_eq_some_iff.mp H
    obtain ⟨t222, A40, H⟩ := H
    try dsimp only at H
    have A4 := Aside0.mk A40
    clear A40
    by_cases c5 : t222 = true
    · subst c5
      rw [if_pos rfl] at H
      have H' := Aside0.mk H
      clear H
      go_wp2_with (first | ((with_reducible refine gate_callee (f := 90) rfl ?_); refine goesL_ (some 13) rfl rfl Try.func90 (by kernel_rfl) rfl #[.slice A0 l0.length c0] rfl (by (try simp only [List.map_toArray, List.map_cons, List.map_nil]); first | done | rfl | (simp only [List.length_drop, List.length_take]; rfl)) ?_; (with_reducible refine (spec_l3Kit.calls k _ _ l0 true _ (Sq.C ((Kd.C_below HR0.out HB.out))) HC0.out A4.out).mono ?_); rintro e w' ⟨rfl, ⟨nd, rfl⟩⟩; refine ⟨_, rfl, ?_⟩))
      go_meet
      case rel => exact ⟨_, (decide (a1 < 1)), (by first | rfl | (simp; done) | (simp [*]; done)), H', ⟨by first | omega | exact Nat.le_refl _⟩, ⟨Sq.B HB⟩⟩
    · replace c5 := Bool.eq_false_iff.mpr c5
      subst c5
      rw [if_neg (show ¬ (false = true) by decide)] at H
      have H' := Aside0.mk H
      clear H
      go_wp2_with (first | ((with_reducible refine gate_callee (f := 90) rfl ?_); refine goesL_ (some 13) rfl rfl Try.func90 (by kernel_rfl) rfl #[.slice A0 l0.length c0] rfl (by (try simp only [List.map_toArray, List.map_cons, List.map_nil]); first | done | rfl | (simp only [List.length_drop, List.length_take]; rfl)) ?_; (with_reducible refine (spec_l3Kit.calls k _ _ l0 false _ (Sq.C ((Kd.C_below HR0.out HB.out))) HC0.out A4.out).mono ?_); rintro e w' ⟨rfl, ⟨nd, rfl⟩⟩; refine ⟨_, rfl, ?_⟩))
      go_meet
      case rel => exact ⟨_, (true), (by first | rfl | (simp; done) | (simp [*]; done)), H', ⟨by first | omega | exact Nat.le_refl _⟩, ⟨Sq.B HB⟩⟩
  case rest =>
    clear HC3
    try clear p2
    try clear c3
    try clear c5
    obtain ⟨kq, x18_2, rfl, HA, HJ2, HB⟩ := hcut
    cases kq with
    | zero => exact absurd HA.out (by simp [spec_HowToWeigh.j0])
    | succ kj2 =>
      have H := HA.out
      clear HA
      simp only [spec_HowToWeigh.j0] at H
      by_cases c6 : x18_2 = true
      · subst c6
        rw [if_pos rfl] at H
        obtain ⟨y223, hy223⟩ : ∃ y_ : List Int, y_ = (([] : List Int)) := ⟨_, rfl⟩
        replace H : (some (y223, false)) = some (r1, r2) := by first | (rw [hy223]; with_reducible exact H) | (have H2_ := (Option.bind_some _ _).symm.trans H; rw [hy223]; with_reducible exact H2_) | (have H2_ := (Option.bind_some _ _).symm.trans H; with_reducible exact H2_) | with_reducible exact H | (rw [hy223]; exact H) | exact H
        have Ny223 := Aside0.mk hy223
        clear hy223
        simp only [Option.some.injEq, Prod.mk.injEq] at H
        obtain ⟨rfl, rfl⟩ := H
        go_wp2_with (first | ((with_reducible refine gate_dst (N := 19) rfl ?_); refine Kd.R_lit (Kd.int .i64) _ 3 ?hg (N := 19) ?hd (xs := ([] : List Int)) (inner := []) (ok := fun _ => True) (okp := fun _ => True) ?hr ?hp (fun _ hk => hk) trivial (Below.refl _ _) (Nat.le_refl _) (by simp) ?_; (case hd => rfl); (case hg => rfl); (case hr => first | (go_simp; done) | (go_simp; rfl)); (case hp => exact (Reps.none _ _)); intro v224 w7 ho8 hb hg_ hnew_; clear hg_ hnew_; (first | rw [← Ny223.out] at ho8 | (simp only [Int.reduceToNat] at ho8; rw [← Ny223.out] at ho8)); have n0_ := Sq.L (Kd.R_newM (M := fun k_ => (w.heap.size ≤ k_)) ho8 (below_size (Sq.B HB)) (fun k_ h_ => h_)) HB; have n1_ := Sq.S HB hb; have HO225 := n0_; replace HB := n1_; clear n0_ n1_; clear hb ho8))
        go_ret2
        exact ⟨_, by first | rfl | (simp [errW_none, errW_some] <;> rfl) | (simp [*, errW_none, errW_some] <;> rfl), (by (with_reducible repeat (first | apply Kd.R_alloc | apply Kd.R_drewN | apply Kd.R_drew)); exact Kd.R_mono HO225.out (fun _ _ => trivial)), Sq.B HB⟩
      · replace c6 := Bool.eq_false_iff.mpr c6
        subst c6
        rw [if_neg (show ¬ (false = true) by decide)] at H
        replace H := Option.bind_eq_some_iff.mp H
        obtain ⟨t226, A90, H⟩ := H
        try dsimp only at H
        have A9 := Aside0.mk A90
        clear A90
        obtain ⟨y229, hy229⟩ : ∃ y_ : List Int, y_ = (([] : List Int)) := ⟨_, rfl⟩
        replace H : (spec_HowToWeigh.l0 kj2 l0 a1 t226 y229 (wrap64 ((l0.length : Int) + 1)) 0) = some (r1, r2) := by first | (rw [hy229]; with_reducible exact H) | (have H2_ := (Option.bind_some _ _).symm.trans H; rw [hy229]; with_reducible exact H2_) | (have H2_ := (Option.bind_some _ _).symm.trans H; with_reducible exact H2_) | with_reducible exact H | (rw [hy229]; exact H) | exact H
        have Ny229 := Aside0.mk hy229
        clear hy229
        have H' := Aside0.mk H
        clear H
        go_wp2_with (first | ((with_reducible refine gate_callee (f := 84) rfl ?_); refine goesL_ (some 22) rfl rfl Try.func84 (by kernel_rfl) rfl #[.int .i64 (l0.length : Int)] rfl (by (try simp only [List.map_toArray, List.map_cons, List.map_nil]); first | done | rfl | (simp only [List.length_drop, List.length_take]; rfl)) ?_; (with_reducible refine (spec_l3All.calls kj2 (l0.length : Int) t226 _ A9.out).mono ?_); rintro e w10 ⟨v227, rfl, ho0, hb⟩; refine ⟨_, rfl, ?_⟩; have HO228 := Sq.L ho0 HB; replace HB := Sq.S HB hb; clear hb ho0) | ((with_reducible refine gate_dst (N := 23) rfl ?_); refine Kd.R_lit (Kd.int .i64) _ 3 ?hg (N := 23) ?hd (xs := ([] : List Int)) (inner := []) (ok := fun _ => True) (okp := fun _ => True) ?hr ?hp (fun _ hk => hk) trivial (Below.refl _ _) (Nat.le_refl _) (by simp) ?_; (case hd => rfl); (case hg => rfl); (case hr => first | (go_simp; done) | (go_simp; rfl)); (case hp => exact (Reps.none _ _)); intro v230 w11 ho12 hb hg_ hnew_; clear hg_ hnew_; (first | rw [← Ny229.out] at ho12 | (simp only [Int.reduceToNat] at ho12; rw [← Ny229.out] at ho12)); have n0_ := Sq.E HO228 ho12 hb; have n1_ := Sq.L (Kd.R_newM (M := fun k_ => (w.heap.size ≤ k_)) ho12 (below_size (Sq.B HB)) (fun k_ h_ => h_)) HB; have n2_ := Sq.S HB hb; replace HO228 := n0_; have HO231 := n1_; replace HB := n2_; clear n0_ n1_ n2_; clear hb ho12))
        go_loopg [7, 8, 9] kj2 (fun kq v7 v8 v9 w' => ∃ (x7_2 : List Int) (x8_2 : Int) (x9_2 : Int), v8 = .int .i64 x8_2 ∧ v9 = .int .i64 x9_2 ∧ Aside0 (spec_HowToWeigh.l0 kq l0 a1 t226 x7_2 x8_2 x9_2 = some (r1, r2)) ∧ Aside0 (kq ≤ kj2) ∧ Aside0 (Kd.R (Kd.slice 3 (Kd.int .i64)) 25 w' w.heap.size (fun _ => True) v227 t226) ∧ Aside0 (Kd.R (Kd.int .i64) 3 w' w.heap.size (fun _ => True) v7 x7_2) ∧ Aside0 (Below w.heap.size w w'))
        case atStart => exact ⟨(y229), (wrap64 ((l0.length : Int) + 1)), (0), (by first | rfl | (simp; done) | (simp [*]; done)), (by first | rfl | (simp; done) | (simp [*]; done)), H', ⟨Nat.le_refl _⟩, ⟨by (with_reducible repeat (first | apply Kd.R_alloc | apply Kd.R_drewN | apply Kd.R_drew)); exact Kd.R_mono HO228.out (fun _ _ => trivial)⟩, ⟨by (with_reducible repeat (first | apply Kd.R_alloc | apply Kd.R_drewN | apply Kd.R_drew)); exact Kd.R_mono HO231.out (fun _ _ => trivial)⟩, ⟨Sq.B HB⟩⟩
        case round =>
          clear H'
          try clear p2
          try clear c3
          try clear c5
          try clear c6
          try clear p6
          try clear c8
          try clear c9
          try clear p2
          obtain ⟨x7_2, x8_2, x9_2, rfl, rfl, HA, HK2, HO_6, HO_7, HB⟩ := hrel
          cases gk with
          | zero => exact absurd HA.out (by simp [spec_HowToWeigh.l0])
          | succ k2 =>
            have H := HA.out
            clear HA
            simp only [spec_HowToWeigh.l0] at H
            by_cases c13 : x9_2 < (t226.length : Int)
            · rw [if_pos c13] at H
              have c13b0 : decide (x9_2 < (t226.length : Int)) = true := decide_eq_true c13
              clear c13
              by_cases c14 : 0 ≤ x9_2
              · rw [if_pos c14] at H
                have c14b0 : decide (0 ≤ x9_2) = true := decide_eq_true c14
                clear c14
                replace H := Option.bind_eq_some_iff.mp H
                obtain ⟨⟨t233, t234⟩, A150, H⟩ := H
                try dsimp only at H
                have A15 := Aside0.mk A150
                clear A150
                by_cases c16 : t233 = a1
                · rw [if_pos c16] at H
                  have c16b0 : (t233 == a1) = true := beq_iff_eq.mpr c16
                  have c16b1 : (t233 != a1) = false := bne_eq_false_iff_eq.mpr c16
                  clear c16
                  by_cases c17 : t234 < x8_2
                  · rw [if_pos c17] at H
                    have c17b0 : decide (t234 < x8_2) = true := decide_eq_true c17
                    clear c17
                    have H' := Aside0.mk H
                    clear H
                    obtain ⟨Ao18, co18, rfl⟩ := Kd.R_slice HO_6.out
                    have p232 : 0 ≤ (x9_2 : Int) := of_decide_eq_true (by first | (with_reducible assumption) | assumption)
                    have q232 : x9_2 < (t226.length : Int) := of_decide_eq_true (by first | (with_reducible assumption) | assumption)
                    obtain ⟨ad232, A232_0, c232_0, e232, hx232_0, hl232_0, hi232_0⟩ := at_L3 (Kd.R_reads' HO_6.out).2.2 x9_2 p232 q232
                    cases e232
                    obtain ⟨ce232, hce232, hMe232, hcc232⟩ := Kd.N_get (Kd.R_N HO_6.out) [] x9_2 p232 (by first | exact q232 | exact of_decide_eq_true (by first | (with_reducible assumption) | assumption) | (have e_ := (Kd.R_reads' HO_6.out).1; omega))
                    obtain ⟨ua232_0, uc232_0, rfl, ul232_0, ge232_0⟩ := Kd.FK_slice_open hMe232
                    have hv232_0 := hcc232 0 _ rfl
                    rw [Nat.add_zero, show ((Kd.slice 3 (Kd.int .i64))).sz = 1 from rfl, Nat.mul_one] at hv232_0
                    replace hv232_0 := Option.some.inj (hv232_0.symm.trans hx232_0)
                    injection hv232_0 with hva_ hvn_ hvc_
                    rw [hva_] at ge232_0
                    rw [hvc_] at ul232_0
                    have HL232_0 := Aside0.mk (show Kd.V (Kd.int .i64) 3 _ w.heap.size _ _ (rd_L3 t226 x9_2) from Kd.V_mk ul232_0 ge232_0)
                    clear hva_ hvn_ hvc_ ge232_0 ul232_0
                    clear hcc232 hce232
                    have HR232_0 := Aside0.mk hi232_0
                    have HC232_0 := Aside0.mk hl232_0
                    clear hi232_0 hl232_0
                    replace p232 := eq_true p232
                    replace q232 := eq_true q232
                    go_wp2_with (first | ((with_reducible refine gate_callee (f := 91) rfl ?_); refine goesL_ (some 39) rfl rfl Try.func91 (by kernel_rfl) rfl #[.slice A0 l0.length c0, .slice A232_0 (rd_L3 t226 x9_2).length c232_0] rfl (by (try simp only [List.map_toArray, List.map_cons, List.map_nil]); first | done | rfl | (simp only [List.length_drop, List.length_take]; rfl)) ?_; (with_reducible refine (spec_l3Weigh.calls k2 _ _ l0 _ _ (rd_L3 t226 x9_2) t233 t234 _ (Sq.C ((Kd.C_below HR0.out HB.out))) HC0.out ?side3 ?side4 A15.out).mono ?_); (case side3 => repeat (first | exact (by repeat (first | (with_reducible exact HR232_0.out) | (with_reducible refine Kd.C_alloc ?_ _) | (with_reducible refine Kd.C_drewN ?_ _) | (with_reducible refine Kd.C_drew ?_) | exact HR232_0.out)) | (with_reducible refine Kd.C_alloc ?_ _) | (with_reducible refine Kd.C_drewN ?_ _) | (with_reducible refine Kd.C_drew ?_))); (case side4 => exact HC232_0.out); rintro e w' ⟨rfl, ⟨nd, rfl⟩⟩; refine ⟨_, rfl, ?_⟩; have p235 : 0 ≤ (x9_2 : Int) := of_decide_eq_true (by first | (with_reducible assumption) | assumption); have q235 : x9_2 < (t226.length : Int) := of_decide_eq_true (by first | (with_reducible assumption) | assumption); obtain ⟨ad235, A235_0, c235_0, e235, hx235_0, hl235_0, hi235_0⟩ := at_L3 (Kd.R_reads' HO_6.out).2.2 x9_2 p235 q235; obtain rfl : ad232 = ad235 := (by injection e235); obtain ⟨ce235, hce235, hMe235, hcc235⟩ := Kd.N_get (Kd.R_N HO_6.out) [] x9_2 p235 (by first | exact q235 | exact of_decide_eq_true (by first | (with_reducible assumption) | assumption) | (have e_ := (Kd.R_reads' HO_6.out).1; omega)); obtain ⟨ua235_0, uc235_0, rfl, ul235_0, ge235_0⟩ := Kd.FK_slice_open hMe235; have hv235_0 := hcc235 0 _ rfl; rw [Nat.add_zero, show ((Kd.slice 3 (Kd.int .i64))).sz = 1 from rfl, Nat.mul_one] at hv235_0; replace hv235_0 := Option.some.inj (hv235_0.symm.trans hx235_0); injection hv235_0 with hva_ hvn_ hvc_; rw [hva_] at ge235_0; rw [hvc_] at ul235_0; have HL235_0 := Aside0.mk (show Kd.V (Kd.int .i64) 3 _ w.heap.size _ _ (rd_L3 t226 x9_2) from Kd.V_mk ul235_0 ge235_0); clear hva_ hvn_ hvc_ ge235_0 ul235_0; clear hcc235 hce235; have HR235_0 := Aside0.mk hi235_0; have HC235_0 := Aside0.mk hl235_0; clear hi235_0 hl235_0; replace p235 := eq_true p235; replace q235 := eq_true q235; have ea_ := Option.some.inj (hx232_0.symm.trans hx235_0); injection ea_ with ea_ en_ ec_; subst ea_; subst ec_; clear en_))
                    go_roundg k2
                    case measure => have := HJ2.out; have := HK2.out; omega
                    case rel => exact ⟨(rd_L3 t226 x9_2), (t234), (wrap64 (x9_2 + 1)), (by first | rfl | (simp; done) | (simp [*]; done)), (by first | rfl | (simp; done) | (simp [*]; done)), H', ⟨by have := HJ2.out; have := HK2.out; omega⟩, ⟨by (with_reducible repeat (first | apply Kd.R_alloc | apply Kd.R_drewN | apply Kd.R_drew)); exact HO_6.out⟩, ⟨by (with_reducible repeat (first | apply Kd.R_alloc | apply Kd.R_drewN | apply Kd.R_drew)); first | exact spec_HowToWeigh.rows_at HO_6.out x9_2 (of_eq_true p232) (of_eq_true q232) hx235_0 | exact spec_HowToWeigh.rows_at HO_6.out x9_2 (of_eq_true p232) (of_eq_true q232) hx232_0⟩, ⟨Sq.B HB⟩⟩
                  · rw [if_neg c17] at H
                    have c17b0 : decide (t234 < x8_2) = false := decide_eq_false c17
                    clear c17
                    have H' := Aside0.mk H
                    clear H
                    obtain ⟨Ao19, co19, rfl⟩ := Kd.R_slice HO_6.out
                    have p232 : 0 ≤ (x9_2 : Int) := of_decide_eq_true (by first | (with_reducible assumption) | assumption)
                    have q232 : x9_2 < (t226.length : Int) := of_decide_eq_true (by first | (with_reducible assumption) | assumption)
                    obtain ⟨ad232, A232_0, c232_0, e232, hx232_0, hl232_0, hi232_0⟩ := at_L3 (Kd.R_reads' HO_6.out).2.2 x9_2 p232 q232
                    cases e232
                    obtain ⟨ce232, hce232, hMe232, hcc232⟩ := Kd.N_get (Kd.R_N HO_6.out) [] x9_2 p232 (by first | exact q232 | exact of_decide_eq_true (by first | (with_reducible assumption) | assumption) | (have e_ := (Kd.R_reads' HO_6.out).1; omega))
                    obtain ⟨ua232_0, uc232_0, rfl, ul232_0, ge232_0⟩ := Kd.FK_slice_open hMe232
                    have hv232_0 := hcc232 0 _ rfl
                    rw [Nat.add_zero, show ((Kd.slice 3 (Kd.int .i64))).sz = 1 from rfl, Nat.mul_one] at hv232_0
                    replace hv232_0 := Option.some.inj (hv232_0.symm.trans hx232_0)
                    injection hv232_0 with hva_ hvn_ hvc_
                    rw [hva_] at ge232_0
                    rw [hvc_] at ul232_0
                    have HL232_0 := Aside0.mk (show Kd.V (Kd.int .i64) 3 _ w.heap.size _ _ (rd_L3 t226 x9_2) from Kd.V_mk ul232_0 ge232_0)
                    clear hva_ hvn_ hvc_ ge232_0 ul232_0
                    clear hcc232 hce232
                    have HR232_0 := Aside0.mk hi232_0
                    have HC232_0 := Aside0.mk hl232_0
                    clear hi232_0 hl232_0
                    replace p232 := eq_true p232
                    replace q232 := eq_true q232
                    go_wp2_with (first | ((with_reducible refine gate_callee (f := 91) rfl ?_); refine goesL_ (some 39) rfl rfl Try.func91 (by kernel_rfl) rfl #[.slice A0 l0.length c0, .slice A232_0 (rd_L3 t226 x9_2).length c232_0] rfl (by (try simp only [List.map_toArray, List.map_cons, List.map_nil]); first | done | rfl | (simp only [List.length_drop, List.length_take]; rfl)) ?_; (with_reducible refine (spec_l3Weigh.calls k2 _ _ l0 _ _ (rd_L3 t226 x9_2) t233 t234 _ (Sq.C ((Kd.C_below HR0.out HB.out))) HC0.out ?side3 ?side4 A15.out).mono ?_); (case side3 => repeat (first | exact (by repeat (first | (with_reducible exact HR232_0.out) | (with_reducible refine Kd.C_alloc ?_ _) | (with_reducible refine Kd.C_drewN ?_ _) | (with_reducible refine Kd.C_drew ?_) | exact HR232_0.out)) | (with_reducible refine Kd.C_alloc ?_ _) | (with_reducible refine Kd.C_drewN ?_ _) | (with_reducible refine Kd.C_drew ?_))); (case side4 => exact HC232_0.out); rintro e w' ⟨rfl, ⟨nd, rfl⟩⟩; refine ⟨_, rfl, ?_⟩))
                    go_roundg k2
                    case measure => have := HJ2.out; have := HK2.out; omega
                    case rel => exact ⟨(x7_2), (x8_2), (wrap64 (x9_2 + 1)), (by first | rfl | (simp; done) | (simp [*]; done)), (by first | rfl | (simp; done) | (simp [*]; done)), H', ⟨by have := HJ2.out; have := HK2.out; omega⟩, ⟨by (with_reducible repeat (first | apply Kd.R_alloc | apply Kd.R_drewN | apply Kd.R_drew)); exact HO_6.out⟩, ⟨by (with_reducible repeat (first | apply Kd.R_alloc | apply Kd.R_drewN | apply Kd.R_drew)); exact HO_7.out⟩, ⟨Sq.B HB⟩⟩
                · rw [if_neg c16] at H
                  have c16b0 : (t233 == a1) = false := beq_eq_false_iff_ne.mpr c16
                  have c16b1 : (t233 != a1) = true := bne_iff_ne.mpr c16
                  have H' := Aside0.mk H
                  clear H
                  obtain ⟨Ao20, co20, rfl⟩ := Kd.R_slice HO_6.out
                  have p232 : 0 ≤ (x9_2 : Int) := of_decide_eq_true (by first | (with_reducible assumption) | assumption)
                  have q232 : x9_2 < (t226.length : Int) := of_decide_eq_true (by first | (with_reducible assumption) | assumption)
                  obtain ⟨ad232, A232_0, c232_0, e232, hx232_0, hl232_0, hi232_0⟩ := at_L3 (Kd.R_reads' HO_6.out).2.2 x9_2 p232 q232
                  cases e232
                  obtain ⟨ce232, hce232, hMe232, hcc232⟩ := Kd.N_get (Kd.R_N HO_6.out) [] x9_2 p232 (by first | exact q232 | exact of_decide_eq_true (by first | (with_reducible assumption) | assumption) | (have e_ := (Kd.R_reads' HO_6.out).1; omega))
                  obtain ⟨ua232_0, uc232_0, rfl, ul232_0, ge232_0⟩ := Kd.FK_slice_open hMe232
                  have hv232_0 := hcc232 0 _ rfl
                  rw [Nat.add_zero, show ((Kd.slice 3 (Kd.int .i64))).sz = 1 from rfl, Nat.mul_one] at hv232_0
                  replace hv232_0 := Option.some.inj (hv232_0.symm.trans hx232_0)
                  injection hv232_0 with hva_ hvn_ hvc_
                  rw [hva_] at ge232_0
                  rw [hvc_] at ul232_0
                  have HL232_0 := Aside0.mk (show Kd.V (Kd.int .i64) 3 _ w.heap.size _ _ (rd_L3 t226 x9_2) from Kd.V_mk ul232_0 ge232_0)
                  clear hva_ hvn_ hvc_ ge232_0 ul232_0
                  clear hcc232 hce232
                  have HR232_0 := Aside0.mk hi232_0
                  have HC232_0 := Aside0.mk hl232_0
                  clear hi232_0 hl232_0
                  replace p232 := eq_true p232
                  replace q232 := eq_true q232
                  go_wp2_with (first | ((with_reducible refine gate_callee (f := 91) rfl ?_); refine goesL_ (some 39) rfl rfl Try.func91 (by kernel_rfl) rfl #[.slice A0 l0.length c0, .slice A232_0 (rd_L3 t226 x9_2).length c232_0] rfl (by (try simp only [List.map_toArray, List.map_cons, List.map_nil]); first | done | rfl | (simp only [List.length_drop, List.length_take]; rfl)) ?_; (with_reducible refine (spec_l3Weigh.calls k2 _ _ l0 _ _ (rd_L3 t226 x9_2) t233 t234 _ (Sq.C ((Kd.C_below HR0.out HB.out))) HC0.out ?side3 ?side4 A15.out).mono ?_); (case side3 => repeat (first | exact (by repeat (first | (with_reducible exact HR232_0.out) | (with_reducible refine Kd.C_alloc ?_ _) | (with_reducible refine Kd.C_drewN ?_ _) | (with_reducible refine Kd.C_drew ?_) | exact HR232_0.out)) | (with_reducible refine Kd.C_alloc ?_ _) | (with_reducible refine Kd.C_drewN ?_ _) | (with_reducible refine Kd.C_drew ?_))); (case side4 => exact HC232_0.out); rintro e w' ⟨rfl, ⟨nd, rfl⟩⟩; refine ⟨_, rfl, ?_⟩))
                  go_roundg k2
                  case measure => have := HJ2.out; have := HK2.out; omega
                  case rel => exact ⟨(x7_2), (x8_2), (wrap64 (x9_2 + 1)), (by first | rfl | (simp; done) | (simp [*]; done)), (by first | rfl | (simp; done) | (simp [*]; done)), H', ⟨by have := HJ2.out; have := HK2.out; omega⟩, ⟨by (with_reducible repeat (first | apply Kd.R_alloc | apply Kd.R_drewN | apply Kd.R_drew)); exact HO_6.out⟩, ⟨by (with_reducible repeat (first | apply Kd.R_alloc | apply Kd.R_drewN | apply Kd.R_drew)); exact HO_7.out⟩, ⟨Sq.B HB⟩⟩
              · rw [if_neg c14] at H
                exact absurd H (by simp)
            · rw [if_neg c13] at H
              have c13b0 : decide (x9_2 < (t226.length : Int)) = false := decide_eq_false c13
              clear c13
              simp only [Option.some.injEq, Prod.mk.injEq] at H
              obtain ⟨rfl, rfl⟩ := H
              obtain ⟨Ao21, co21, rfl⟩ := Kd.R_slice HO_6.out
              obtain ⟨Ao22, co22, rfl⟩ := Kd.R_slice HO_7.out
              go_wp2
              go_ret2
              exact ⟨_, by first | rfl | (simp [errW_none, errW_some] <;> rfl) | (simp [*, errW_none, errW_some] <;> rfl), by (with_reducible repeat (first | apply Kd.R_alloc | apply Kd.R_drewN | apply Kd.R_drew)); exact Kd.R_mono HO_7.out (fun _ _ => trivial), Sq.B HB⟩

-- NOT PRINTED: function 110 (impl_weighed_1)

-- NOT PRINTED: function 111 (slices_Sort_int_int)

-- NOT PRINTED: function 112 (slices_Compact_int_int)

/-! ### impl_weighed: function 92 -/
/-- What is known at each round. -/
structure impl_weighed.Inv (w : World) (A : Option Addr) (kit : List Int) (bb B : Nat) (out : List Int) (W : World) : Prop where
  bel : Below w.heap.size w W
  row : ∃ v, W.heap[bb]? = some (.cells #[v] 25 (0, 0)) ∧ Kd.R (Kd.int .i64) 3 W w.heap.size (fun k => k ≠ bb ∧ ¬ impl_eachSigns.mine B k) v out
  kit : Kd.C (Kd.int .i64) w A kit.length kit
theorem impl_weighed.Inv.step {w : World} {A : Option Addr} {kit : List Int} {bb B : Nat} {out : List Int} {W W2 : World} (h : impl_weighed.Inv w A kit bb B out W) (hwb : w.heap.size ≤ B) (hbb : bb < B) (hb : Below B W W2) (hk : Kept W W2 (impl_eachSigns.mine B)) : impl_weighed.Inv w A kit bb B out W2 := by
  obtain ⟨v, hv, hr⟩ := h.row
  exact ⟨h.bel.trans ⟨hb.os, hb.tape, hb.output, hb.size, fun k hk => hb.block k (by omega)⟩, ⟨v, blk_kept hv hk (by simp only [impl_eachSigns.mine]; omega), Kd.R_kept hr hk (fun k hk => hk.2)⟩, h.kit⟩
/-- One sum more. -/
def impl_weighed.more (out : List Int) (sum : Int) : Option (List Int) := if sum > 0 then (if out.length < 17592186044416 then some (out ++ [sum]) else none) else some out
set_option maxHeartbeats 8000000 in
set_option maxRecDepth 100000 in
theorem impl_weighed.tell (w : World) (A : Option Addr) (kit : List Int) (bb B : Nat) (hwb : w.heap.size ≤ bb) (hbb : bb < B)
    (out out2 : List Int) (W : World) (vs : Value) (sum : Int) (hi : impl_weighed.Inv w A kit bb B out W) (hB : B + 6 ≤ W.heap.size) (hm : impl_weighed.more out sum = some out2) :
    Calls Try.prog 110 #[vs, .int .i64 sum, .pointer (some ⟨bb, 0, none⟩)] W fun e W' => e = .returned (.tuple #[]) ∧ impl_weighed.Inv w A kit bb B out2 W' ∧ Kept W W' (fun k => ¬ impl_eachSigns.mine B k) := by
  unfold impl_weighed.more at hm
  by_cases c0 : sum > 0
  · rw [if_pos c0] at hm
    have c0b : decide (sum > 0) = true := decide_eq_true c0
    by_cases hlt : out.length < 17592186044416
    · rw [if_pos hlt] at hm
      obtain rfl := Option.some.inj hm
      clear hm
      obtain ⟨v, hv, hbr⟩ := hi.row
      obtain ⟨Ab, cb, eb⟩ := Kd.R_slice hbr
      subst eb
      have hbc : W.cell? ⟨bb, 0, none⟩ = some (.slice Ab out.length cb) := (blk_cell hv 0).trans rfl
      have HI := Aside0.mk hi
      have HBR := Aside0.mk hbr
      have HV := Aside0.mk hv
      have HLT := Aside0.mk hlt
      have HB6 := Aside0.mk hB
      clear hi hbr hv hlt hB c0
      go_enter Try.func110, Try.ntmps110
      go_wp2_with (((with_reducible refine gate_builtin (b := .append) (xs := #[.tmp 7, .tmp 9]) rfl ?_); refine Hid.out ?_))
      unfold Hid
      refine Kd.R_append (Kd.int .i64) (w0 := w) w.heap.size rfl (.tmp 7) (.tmp 9) 25 3 (.int .i64 0) 8 rfl Try.underlying25 info3 rfl (by decide) (by omega) (.slice Ab out.length cb) out sum [.int .i64 sum] (fun k => k ≠ bb ∧ ¬ impl_eachSigns.mine B k) (fun _ => False) rfl rfl ?aP (fun _ hk => hk.elim) ?aF ?aO ?aB ?aS ?aL ?_
      case aP => exact rfl
      case aB => exact (by repeat (first | (with_reducible first | exact HI.out.bel | apply below_alloc | apply pw_below_drewN | apply below_drew1) | exact HI.out.bel))
      case aF =>
        intro k_ hk
        have h6 := HB6.out
        try rw [World.size_alloc] at hk
        exact ⟨by omega, by simp only [impl_eachSigns.mine]; omega⟩
      case aO => exact (Sq.R HBR)
      case aS => exact (below_size (by repeat (first | (with_reducible first | exact HI.out.bel | apply below_alloc | apply pw_below_drewN | apply below_drew1) | exact HI.out.bel)))
      case aL =>
        have := HLT.out
        omega
      intro v8 w8 ho hb hg hat
      obtain ⟨A8, c8, e8⟩ := Kd.R_slice ho
      subst e8
      have hv8 : w8.heap[bb]? = some (.cells #[.slice Ab out.length cb] 25 (0, 0)) := blk_grown HV.out hg (fun e_ => (HBR.out.1 bb e_.symm).1 rfl)
      have hk8 : Kept W w8 (fun k => ¬ impl_eachSigns.mine B k) := Kept.of_grown hg (Kept.refl W _) (fun k e_ => .inl (HBR.out.1 k e_).2)
      have k8 : w8.cell? ⟨bb, 0, none⟩ = some (.slice Ab out.length cb) := (blk_cell hv8 0).trans rfl
      have f8 : w8.frozen? ⟨bb, 0, none⟩ = false := blk_frozen hv8 0
      have HO := Aside0.mk ho
      have HBB := Aside0.mk hb
      have HK8 := Aside0.mk hk8
      have HV8 := Aside0.mk hv8
      clear ho hb hg hat hk8 hv8
      go_wp2_with (((with_reducible refine gate_store (t := 25) (p := 2) rfl ?_); refine store_event (t := 25) (p := 2) (v := ?vo_w9) (w1 := (w8.setCell ⟨bb, 0, none⟩ (.slice A8 (out ++ [sum]).length c8))) ?hg ?ho ?hn ?hr ?_; (case ho => rfl); (case hg => rfl); (case hn => rfl); (case hr => first | (go_simp; done) | (go_simp; rfl)); intro w9 hw9; have HW9 := Aside0.mk hw9; clear hw9))
      try go_wp2
      go_end0
      have hw9 := HW9.out
      refine ⟨rfl, ⟨?_, ⟨.slice A8 (out ++ [sum]).length c8, ?_, ?_⟩, HI.out.kit⟩, ?_⟩
      · rw [hw9]
        exact HBB.out.setCell (p := ⟨bb, 0, none⟩) hwb _
      · rw [hw9]
        exact blk_put HV8.out 0 _ rfl
      · rw [hw9]
        exact Kd.R_far HO.out (p := ⟨bb, 0, none⟩) (fun k hk => hk.1) _
      · rw [hw9]
        exact HK8.out.setCell (p := ⟨bb, 0, none⟩) (.inl (by simp only [impl_eachSigns.mine]; omega)) _
    · rw [if_neg hlt] at hm
      cases hm
  · rw [if_neg c0] at hm
    obtain rfl := Option.some.inj hm
    have c0b : decide (sum > 0) = false := decide_eq_false c0
    have HI := Aside0.mk hi
    clear hi hm
    go_enter Try.func110, Try.ntmps110
    go_wp2
    go_end0
    exact ⟨rfl, HI.out, Kept.refl _ _⟩
theorem impl_weighed.put_old (W : World) (q g : Nat) (d : Array Int) (os : Array Obj) (k : Nat) (hk : k < W.heap.size) (hne : k ≠ g) : (Sort.grow (Sort.putRow (Value.int .i64) (Sort.ahead W q) g 0 d) os).heap[k]? = W.heap[k]? := by
  rw [Sort.heap_grow_old _ _ (by simp [Sort.putRow, Sort.mapBlock, Sort.ahead]; exact hk)]
  show (W.heap.modify g _)[k]? = _
  rw [Array.getElem?_modify, if_neg (Ne.symm hne)]
theorem impl_weighed.put_size (W : World) (q g : Nat) (d : Array Int) (os : Array Obj) : W.heap.size ≤ (Sort.grow (Sort.putRow (Value.int .i64) (Sort.ahead W q) g 0 d) os).heap.size := by
  simp [Sort.grow, Sort.putRow, Sort.mapBlock, Sort.ahead]
theorem impl_weighed.put_at (W : World) (q g : Nat) (d : Array Int) (os : Array Obj) (cur : Array Value) (e : TypeId) (h : W.heap[g]? = some (.cells cur e (0, 0))) : (Sort.grow (Sort.putRow (Value.int .i64) (Sort.ahead W q) g 0 d) os).heap[g]? = some (.cells (Sort.putCells (Value.int .i64) 0 d cur) e (0, 0)) := by
  have hg : g < W.heap.size := blk_lt h
  rw [Sort.heap_grow_old _ _ (by simp [Sort.putRow, Sort.mapBlock, Sort.ahead]; exact hg)]
  show (W.heap.modify g _)[g]? = _
  rw [Array.getElem?_modify, if_pos rfl, h]
  rfl
theorem impl_weighed.put_kept (W : World) (q g : Nat) (d : Array Int) (os : Array Obj) : Kept W (Sort.grow (Sort.putRow (Value.int .i64) (Sort.ahead W q) g 0 d) os) (fun k => k = g) := ⟨impl_weighed.put_size W q g d os, fun k hk hne => impl_weighed.put_old W q g d os k hk hne⟩
theorem impl_weighed.put_below (B : Nat) (W : World) (q g : Nat) (d : Array Int) (os : Array Obj) (hB : B ≤ g) (hg : g < W.heap.size) : Below B W (Sort.grow (Sort.putRow (Value.int .i64) (Sort.ahead W q) g 0 d) os) := ⟨rfl, rfl, rfl, impl_weighed.put_size W q g d os, fun k hk => impl_weighed.put_old W q g d os k (by omega) (by omega)⟩
theorem impl_weighed.put_row {W : World} {base g n cap : Nat} {ok : Nat → Prop} {xs : List Int} (h : Kd.R (Kd.int .i64) 3 W base ok (.slice (some ⟨g, 0, none⟩) n cap) xs) (q m : Nat) (ys : List Int) (os : Array Obj) (hy : ys.length = xs.length) (hm : m ≤ ys.length) :
    Kd.R (Kd.int .i64) 3 (Sort.grow (Sort.putRow (Value.int .i64) (Sort.ahead W q) g 0 ys.toArray) os) base ok (.slice (some ⟨g, 0, none⟩) (ys.take m).length cap) (ys.take m) := by
  refine Kd.R_of_own ?_ h.1
  have ho := Kd.own_of_R h
  obtain ⟨h1, h2⟩ := ho
  rcases h2 with ⟨he, _⟩ | ⟨g2, c2, cur, he, hb, hh, hnc, hcm, hcs, ht⟩
  · cases he
  · injection he with ha hn hc
    injection ha with ha
    injection ha with hg2
    subst hg2
    subst hc
    have hl : (ys.take m).length = m := by rw [List.length_take]; omega
    refine ⟨by simp [encs], .inr ⟨g, cap, Sort.putCells (Value.int .i64) 0 ys.toArray cur, rfl, hb, impl_weighed.put_at W q g ys.toArray os cur 3 hh, by omega, hcm, by rw [← hcs]; simp [Sort.putCells], ?_⟩⟩
    apply List.ext_getElem?
    intro k
    rw [hl, Nat.mul_one]
    by_cases hk : k < m
    · have hkc : k < cur.size := by rw [hcs]; omega
      rw [List.getElem?_take_of_lt hk, Array.getElem?_toList, Sort.putCells, Array.getElem?_mapIdx, Array.getElem?_eq_getElem hkc, Option.map_some, if_pos ⟨Nat.zero_le _, by simp; omega⟩]
      simp only [encs, List.getElem?_map, List.getElem?_take_of_lt hk, Nat.sub_zero]
      have hk2 : k < ys.length := by omega
      rw [List.getElem?_eq_getElem hk2, getElem!_pos _ _ (by simpa using hk2)]
      simp
    · rw [List.getElem?_eq_none (by rw [List.length_take]; omega), List.getElem?_eq_none (by simp [encs]; omega)]
theorem impl_weighed.holds {W : World} {base g n cap : Nat} {ok : Nat → Prop} {xs : List Int} (h : Kd.R (Kd.int .i64) 3 W base ok (.slice (some ⟨g, 0, none⟩) n cap) xs) : Sort.Holds (Value.int .i64) W g 0 xs.toArray := by
  intro j hj
  obtain ⟨rfl, _⟩ := Kd.R_reads' h
  have hj2 : j < xs.length := by simpa using hj
  obtain ⟨h1, h2⟩ := Kd.R_celln 0 h (j : Int) (by omega) (by omega)
  rw [Int.toNat_natCast] at h1 h2
  rw [Nat.zero_add]
  refine ⟨?_, h2⟩
  rw [h1]
  have : rdOf (0 : Int) xs (j : Int) = xs.toArray[j]! := by
    unfold rdOf
    rw [Int.toNat_natCast, List.getD_eq_getElem?_getD, List.getElem?_eq_getElem hj2, getElem!_pos _ _ (by simpa using hj2)]
    simp
  rw [this]
theorem impl_weighed.compact_le (ys : List Int) : (Lib.compact ys).length ≤ ys.length := by
  unfold Lib.compact Lib.compactUpTo
  rw [List.length_map]
  refine Nat.le_trans (List.length_filter_le _ _) ?_
  rw [List.length_range]
  exact Nat.le_refl _
def impl_weighed.f (l0 : List Int) (a1 : Int) : Option (List Int) := if -1 ≤ a1 ∧ a1 ≤ 2 ∧ l0.length < 35184372088832 then ((impl_eachSigns.eachG (fun out _ sum => impl_weighed.more out sum) a1 l0 [] 0 []).bind fun out => if 0 < out.length ∧ out.length < 4611686018427387904 then some (Lib.compact (out.mergeSort fun x y => decide (x ≤ y))) else none) else none
theorem impl_weighed.two (w W : World) (o0 o1 : Obj) (e : (w.alloc o0).alloc o1 = W) : W.heap.size = w.heap.size + 2 ∧ Below w.heap.size w W ∧ W.heap[w.heap.size]? = some o0 ∧ W.heap[w.heap.size + 1]? = some o1 := by
  subst e
  obtain ⟨s1, h0⟩ := impl_eachSigns.sizes w o0 _ rfl
  obtain ⟨s2, h1⟩ := impl_eachSigns.sizes _ o1 _ s1
  exact ⟨s2, below_alloc (below_alloc (Below.refl _ _) _) _, blk_alloc h0 _, h1⟩
theorem impl_weighed.empty (w W : World) (o1 : Obj) (e : (w.alloc (.cells #[] 3)).alloc o1 = W) : Kd.R (Kd.int .i64) 3 W w.heap.size (fun k => k = w.heap.size) (.slice (some ⟨w.heap.size, 0, none⟩) 0 0) ([] : List Int) := by
  subst e
  have h := impl_eachSigns.row_new w w.heap.size 0 (Nat.le_refl _) (by omega)
  rw [show madeCells (Value.int .i64 0).cells (0 * 1) = #[] from by simp [madeCells]] at h
  exact Kd.R_alloc h _
set_option maxHeartbeats 8000000 in
set_option maxRecDepth 100000 in
theorem impl_weighed.calls (A0 : Option Addr) (c0 : Nat) (l0 : List Int) (a1 : Int) (r : List Int) (w : World) (hr0 : Kd.C (Kd.int .i64) w A0 l0.length l0) (hc0 : l0.length ≤ c0) (h : impl_weighed.f l0 a1 = some r) :
    Calls Try.prog 92 #[.slice A0 l0.length c0, .int .i64 a1] w fun e w' => ∃ v0_ : Value, e = .returned (v0_) ∧ Kd.R (Kd.int .i64) 3 w' w.heap.size (fun _ => True) v0_ r ∧ Below w.heap.size w w' := by
  have HR0 := Aside0.mk hr0
  clear hr0 hc0
  unfold impl_weighed.f at h
  split at h
  · rename_i hl
    obtain ⟨out, hg, h⟩ := Option.bind_eq_some_iff.mp h
    split at h
    · rename_i ho
      obtain rfl := Option.some.inj h
      clear h
      have HG := Aside0.mk hg
      have HL := Aside0.mk hl
      have HO := Aside0.mk ho
      clear hg hl ho
      go_enter Try.func92, Try.ntmps92
      go_wp2_with (go_at_call 78; refine Hid.out ?_)
      unfold Hid
      generalize hW : (w.alloc (.cells #[] 3)).alloc (.cells #[.slice (some ⟨w.heap.size, 0, none⟩) 0 0] 25) = W
      obtain ⟨z0, z1, z2, z3⟩ := impl_weighed.two w W _ _ hW
      have hrow := impl_weighed.empty w W _ hW
      clear hW
      have hinv : impl_weighed.Inv w A0 l0 (w.heap.size + 1) W.heap.size [] W :=
        ⟨z1, ⟨_, z3, Kd.R_mono hrow (fun k e => by subst e; rw [z0]; simp only [impl_eachSigns.mine]; omega)⟩, HR0.out⟩
      have HE := Aside0.mk (impl_eachSigns.each_calls (impl_weighed.Inv w A0 l0 (w.heap.size + 1) W.heap.size) (fun out _ sum => impl_weighed.more out sum) A0 c0 l0 a1 110 #[.pointer (some ⟨w.heap.size + 1, 0, none⟩)] HL.out.1 HL.out.2.1 (by have := HL.out.2.2; omega) (enters_of (P := Try.prog) Try.func110 (by kernel_rfl) rfl) W
        (fun s W1 hi => Kd.Heap.C (Kd.heap_int .i64) (fun k hk => hi.bel.block k hk) hi.kit)
        (fun s W1 W2 hi hB hb hk => hi.step (by omega) (by omega) hb hk)
        (fun vs s W1 x sum s' hi hB hx hr hs => impl_weighed.tell w A0 l0 (w.heap.size + 1) W.heap.size (by omega) (by omega) s s' W1 vs sum hi hB hs)
        [] out hinv HG.out)
      have hBW : w.heap.size + 1 < W.heap.size := by omega
      have HBW := Aside0.mk hBW
      clear hinv hrow z0 z1 z2 z3 hBW
      refine HE.out.mono ?_
      rintro e w1 ⟨rfl, hi⟩
      obtain ⟨v, hv, hr⟩ := hi.row
      obtain ⟨g, c2, e2, hgb, hgl, cl, hgc⟩ := Kd.R_form hr HO.out.1
      have hgok : g ≠ w.heap.size + 1 := (hr.1 g (by rw [e2]; rfl)).1
      subst e2
      have hH := impl_weighed.holds hr
      have hrd := (Kd.R_reads' hr).2.1
      have HS := Aside0.mk (fun n => YtgnmomdgfamhnaaSh.slices_Sort_int g 0 c2 out (w1.drewN n) hH hgl HO.out.2)
      generalize hys : (out.mergeSort fun x y => decide (x ≤ y)) = ys at HS ⊢
      have hyl : ys.length = out.length := by rw [← hys, List.length_mergeSort]
      have HYL := Aside0.mk hyl
      have HYS := Aside0.mk hys
      have k2 : w1.cell? ⟨w.heap.size + 1, 0, none⟩ = some (.slice (some ⟨g, 0, none⟩) out.length c2) := (blk_cell hv 0).trans rfl
      have HR := Aside0.mk hr
      have HB1 := Aside0.mk hi.bel
      have HV := Aside0.mk hv
      have HX := Aside0.mk (And.intro hgb (And.intro hgl (And.intro hgok hrd)))
      clear hi hr hv HE hH hgb hgl cl hgc hgok hrd hys hyl
      go_wp2_with (go_at_call 111; refine (HS.out 0).mono ?_; rintro e w2 ⟨rfl, q, os, hw2⟩; have HW2 := Aside0.mk hw2; clear hw2; refine Hid.out ?_)
      unfold Hid
      have hk := impl_weighed.put_kept w1 q g ys.toArray os
      have hbel := impl_weighed.put_below w.heap.size w1 q g ys.toArray os HX.out.1 HX.out.2.1
      have hrow := impl_weighed.put_row HR.out q ys.length ys os HYL.out (Nat.le_refl _)
      have hw2 : w2 = Sort.grow (Sort.putRow (Value.int .i64) (Sort.ahead w1 q) g 0 ys.toArray) os := HW2.out
      rw [← hw2] at hk hbel hrow
      clear hw2 HW2
      rw [List.take_length, HYL.out] at hrow
      have k3 : w2.cell? ⟨w.heap.size + 1, 0, none⟩ = some (.slice (some ⟨g, 0, none⟩) out.length c2) := cell_kept k2 hk (fun e => HX.out.2.2.1 e.symm)
      have HR2 := Aside0.mk hrow
      have HB2 := Aside0.mk (HB1.out.trans hbel)
      have hH := impl_weighed.holds hrow
      have HC := Aside0.mk (fun n => YtgnmomdgfamhnaaSh.slices_Compact_int g 0 c2 ys (w2.drewN n) hH (by have := HO.out.2; have := HYL.out; omega) (by rw [HYL.out]; exact HX.out.2.2.2))
      have hgs : g < w2.heap.size := Nat.lt_of_lt_of_le HX.out.2.1 hk.1
      have HGS := Aside0.mk hgs
      rw [HYL.out] at HC
      clear k2 hk hbel hrow hH hgs HS
      go_wp2_with (go_at_call 112; refine (HC.out 0).mono ?_; rintro e w3 ⟨rfl, q3, hw3⟩; have HW3 := Aside0.mk hw3; clear hw3; refine Hid.out ?_)
      unfold Hid
      have hw3 := HW3.out
      have hcl : (Lib.compact ys).length ≤ ys.length := impl_weighed.compact_le ys
      have hrow := impl_weighed.put_row HR2.out q3 (Lib.compact ys).length (Lib.compact ys ++ List.replicate (ys.length - (Lib.compact ys).length) 0) #[] (by rw [List.length_append, List.length_replicate]; omega) (by rw [List.length_append]; omega)
      rw [List.take_left, Sort.grow_empty] at hrow
      have hbel := impl_weighed.put_below w.heap.size w2 q3 g (Lib.compact ys ++ List.replicate (ys.length - (Lib.compact ys).length) 0).toArray #[] HX.out.1 HGS.out
      rw [Sort.grow_empty] at hbel
      have e3 : w3 = Sort.putRow (Value.int .i64) (Sort.ahead w2 q3) g 0 (Lib.compact ys ++ List.replicate (ys.length - (Lib.compact ys).length) 0).toArray := by
        rw [HYL.out]
        exact hw3
      rw [← e3] at hrow hbel
      rw [← HYS.out] at hrow
      have HR3 := Aside0.mk hrow
      have HB3 := Aside0.mk (HB2.out.trans hbel)
      clear hrow hbel e3 hw3 HW3 hcl k3 HC
      rw [← HYS.out]
      go_wp2
      go_ret
      exact ⟨_, rfl, by (with_reducible repeat (first | apply Kd.R_alloc | apply Kd.R_drewN | apply Kd.R_drew)); exact Kd.R_mono HR3.out (fun _ _ => trivial), by repeat (first | (with_reducible first | exact HB3.out | apply below_alloc | apply pw_below_drewN | apply below_drew1) | exact HB3.out)⟩
    · cases h
  · cases h

/-! ### impl_WeighOne: function 31 -/
def impl_WeighOne.f (k : Nat) (l0 : List Int) : Option (List Int × Bool) := (impl_IsKit.f k l0).bind fun t197 => (if t197 = true then ((impl_weighed.f l0 0).bind fun t198 => (some (t198, true))) else (some (([] : List Int), false)))
theorem impl_WeighOne.mono : ∀ a0 k, LeO (impl_WeighOne.f k a0) (impl_WeighOne.f (k + 1) a0) := by
  intro a0 k
  unfold impl_WeighOne.f
  repeat' first
      | (with_reducible exact impl_IsKit.mono _ _)
      | (with_reducible exact LeO.refl _)
      | (with_reducible exact LeO.none _)
      | (with_reducible refine LeO.ite ?_ ?_)
      | (with_reducible refine LeO.bind ?_ (fun _ => ?_))
      | exact impl_IsKit.mono _ _
      | exact LeO.none _
      | refine LeO.ite ?_ ?_
      | refine LeO.bind ?_ (fun _ => ?_)
set_option maxHeartbeats 8000000 in
set_option maxRecDepth 100000 in
theorem impl_WeighOne.calls (k : Nat) (A0 : Option Addr) (c0 : Nat) (l0 : List Int) (r1 : List Int) (r2 : Bool) (w : World) (hr0 : Kd.C (Kd.int .i64) w A0 l0.length l0) (hc0 : l0.length ≤ c0) (h : impl_WeighOne.f k l0 = some (r1, r2)) :
    Calls Try.prog 31 #[.slice A0 l0.length c0] w fun e w' => ∃ v0_ : Value, e = .returned (.tuple #[v0_, .bool r2]) ∧ Kd.R (Kd.int .i64) 3 w' w.heap.size (fun _ => True) v0_ r1 ∧ Below w.heap.size w w' := by
  have HR0 := Aside0.mk hr0
  have HC0 := Aside0.mk hc0
  clear hr0 hc0
  have HB := Aside0.mk (Below.refl w.heap.size w)
  have H : ((impl_IsKit.f k l0).bind fun t197 => (if t197 = true then ((impl_weighed.f l0 0).bind fun t198 => (some (t198, true))) else (some (([] : List Int), false)))) = some (r1, r2) := h
  clear h
  replace H := Option.bind_eq_some_iff.mp H
  obtain ⟨t197, A20, H⟩ := H
  try dsimp only at H
  have A2 := Aside0.mk A20
  clear A20
  by_cases c3 : t197 = true
  · subst c3
    rw [if_pos rfl] at H
    replace H := Option.bind_eq_some_iff.mp H
    obtain ⟨t198, A40, H⟩ := H
    try dsimp only at H
    have A4 := Aside0.mk A40
    clear A40
    simp only [Option.some.injEq, Prod.mk.injEq] at H
    obtain ⟨rfl, rfl⟩ := H
    go_enter Try.func31, Try.ntmps31
    go_wp2_with (first | ((with_reducible refine gate_callee (f := 47) rfl ?_); refine goesL_ (some 5) rfl rfl Try.func47 (by kernel_rfl) rfl #[.slice A0 l0.length c0] rfl (by (try simp only [List.map_toArray, List.map_cons, List.map_nil]); first | done | rfl | (simp only [List.length_drop, List.length_take]; rfl)) ?_; (with_reducible refine (impl_IsKit.calls k _ _ l0 true _ (Sq.C (HR0.out)) HC0.out A2.out).mono ?_); rintro e w' ⟨rfl, ⟨nd, rfl⟩⟩; refine ⟨_, rfl, ?_⟩) | ((with_reducible refine gate_callee (f := 92) rfl ?_); refine goesL_ (some 8) rfl rfl Try.func92 (by kernel_rfl) rfl #[.slice A0 l0.length c0, .int .i64 0] rfl (by (try simp only [List.map_toArray, List.map_cons, List.map_nil]); first | done | rfl | (simp only [List.length_drop, List.length_take]; rfl)) ?_; (with_reducible refine (impl_weighed.calls _ _ l0 0 t198 _ (Sq.C (HR0.out)) HC0.out A4.out).mono ?_); rintro e w5 ⟨v199, rfl, ho0, hb⟩; refine ⟨_, rfl, ?_⟩; have HO200 := Sq.L ho0 HB; replace HB := Sq.S HB hb; clear hb ho0))
    go_ret2
    exact ⟨_, by first | rfl | (simp [errW_none, errW_some] <;> rfl) | (simp [*, errW_none, errW_some] <;> rfl), by (with_reducible repeat (first | apply Kd.R_alloc | apply Kd.R_drewN | apply Kd.R_drew)); exact HO200.out, Sq.B HB⟩
  · replace c3 := Bool.eq_false_iff.mpr c3
    subst c3
    rw [if_neg (show ¬ (false = true) by decide)] at H
    simp only [Option.some.injEq, Prod.mk.injEq] at H
    obtain ⟨rfl, rfl⟩ := H
    go_enter Try.func31, Try.ntmps31
    go_wp2_with (first | ((with_reducible refine gate_callee (f := 47) rfl ?_); refine goesL_ (some 5) rfl rfl Try.func47 (by kernel_rfl) rfl #[.slice A0 l0.length c0] rfl (by (try simp only [List.map_toArray, List.map_cons, List.map_nil]); first | done | rfl | (simp only [List.length_drop, List.length_take]; rfl)) ?_; (with_reducible refine (impl_IsKit.calls k _ _ l0 false _ (Sq.C (HR0.out)) HC0.out A2.out).mono ?_); rintro e w' ⟨rfl, ⟨nd, rfl⟩⟩; refine ⟨_, rfl, ?_⟩))
    go_ret2
    exact ⟨_, by first | rfl | (simp [errW_none, errW_some] <;> rfl) | (simp [*, errW_none, errW_some] <;> rfl), by first | exact Kd.R_nil _ _ _ _ _ | exact Kd.N_nil _ _ _ _ _ | exact Kd.V_nil _ _ _ _ _ | exact Kd.Q_nil _ _ _ _ _ | exact Kd.S_nil _ _ _ _ _, Sq.B HB⟩

/-! ### spec_l3Told: function 93 -/
def spec_l3Told.l0 : Nat → List Bool → List Int → Int → Option (List Int)
  | 0, _, _, _ => none
  | k + 1, x0, x3, x4 => if x4 < (x0.length : Int) then (if 0 ≤ x4 then (if rdOf false x0 x4 = true then (if x3.length < 17592186044416 then (spec_l3Told.l0 k x0 (x3 ++ [x4]) (wrap64 (x4 + 1))) else (none)) else (spec_l3Told.l0 k x0 x3 (wrap64 (x4 + 1)))) else (none)) else (some x3)
def spec_l3Told.f (k : Nat) (l0 : List Bool) : Option (List Int) := spec_l3Told.l0 k l0 (([] : List Int)) 1
theorem spec_l3Told.mono_l : ∀ k, (∀ y0 y1 y2, LeO (spec_l3Told.l0 k y0 y1 y2) (spec_l3Told.l0 (k + 1) y0 y1 y2))
  | 0 => fun _ _ _ r h => by simp [spec_l3Told.l0] at h
  | k + 1 => by
    have ih0 := spec_l3Told.mono_l k
    · intro y0 y1 y2
      unfold spec_l3Told.l0
      repeat' first
      | (with_reducible exact ih0 _ _ _)
      | (with_reducible exact LeO.refl _)
      | (with_reducible exact LeO.none _)
      | (with_reducible refine LeO.ite ?_ ?_)
      | (with_reducible refine LeO.bind ?_ (fun _ => ?_))
      | exact ih0 _ _ _
      | exact LeO.none _
      | refine LeO.ite ?_ ?_
      | refine LeO.bind ?_ (fun _ => ?_)
theorem spec_l3Told.mono : ∀ a0 k, LeO (spec_l3Told.f k a0) (spec_l3Told.f (k + 1) a0) := by
  intro a0 k
  have ih0 := spec_l3Told.mono_l k
  unfold spec_l3Told.f
  repeat' first
      | (with_reducible exact ih0 _ _ _)
      | (with_reducible exact LeO.refl _)
      | (with_reducible exact LeO.none _)
      | (with_reducible refine LeO.ite ?_ ?_)
      | (with_reducible refine LeO.bind ?_ (fun _ => ?_))
      | exact ih0 _ _ _
      | exact LeO.none _
      | refine LeO.ite ?_ ?_
      | refine LeO.bind ?_ (fun _ => ?_)
set_option maxHeartbeats 8000000 in
set_option maxRecDepth 100000 in
theorem spec_l3Told.calls (k : Nat) (A0 : Option Addr) (c0 : Nat) (l0 : List Bool) (r : List Int) (w : World) (hr0 : Kd.C Kd.bool w A0 l0.length l0) (hc0 : l0.length ≤ c0) (h : spec_l3Told.f k l0 = some r) :
    Calls Try.prog 93 #[.slice A0 l0.length c0] w fun e w' => ∃ v0_ : Value, e = .returned (v0_) ∧ Kd.R (Kd.int .i64) 3 w' w.heap.size (fun _ => True) v0_ r ∧ Below w.heap.size w w' := by
  have HR0 := Aside0.mk hr0
  have HC0 := Aside0.mk hc0
  clear hr0 hc0
  have HB := Aside0.mk (Below.refl w.heap.size w)
  have H : (spec_l3Told.l0 k l0 (([] : List Int)) 1) = some r := h
  clear h
  obtain ⟨y201, hy201⟩ : ∃ y_ : List Int, y_ = (([] : List Int)) := ⟨_, rfl⟩
  replace H : (spec_l3Told.l0 k l0 y201 1) = some r := by first | (rw [hy201]; with_reducible exact H) | (have H2_ := (Option.bind_some _ _).symm.trans H; rw [hy201]; with_reducible exact H2_) | (have H2_ := (Option.bind_some _ _).symm.trans H; with_reducible exact H2_) | with_reducible exact H | (rw [hy201]; exact H) | exact H
  have Ny201 := Aside0.mk hy201
  clear hy201
  have H' := Aside0.mk H
  clear H
  go_enter Try.func93, Try.ntmps93
  go_wp2_with (first | ((with_reducible refine gate_dst (N := 5) rfl ?_); refine Kd.R_lit (Kd.int .i64) _ 3 ?hg (N := 5) ?hd (xs := ([] : List Int)) (inner := []) (ok := fun _ => True) (okp := fun _ => True) ?hr ?hp (fun _ hk => hk) trivial (Below.refl _ _) (Nat.le_refl _) (by simp) ?_; (case hd => rfl); (case hg => rfl); (case hr => first | (go_simp; done) | (go_simp; rfl)); (case hp => exact (Reps.none _ _)); intro v202 w2 ho3 hb hg_ hnew_; clear hg_ hnew_; (first | rw [← Ny201.out] at ho3 | (simp only [Int.reduceToNat] at ho3; rw [← Ny201.out] at ho3)); have n0_ := Sq.L ho3 HB; have n1_ := Sq.S HB hb; have HO203 := n0_; replace HB := n1_; clear n0_ n1_; clear hb ho3))
  go_loopg [3, 4] k (fun kq v3 v4 w' => ∃ (x3_1 : List Int) (x4_1 : Int), v4 = .int .i64 x4_1 ∧ Aside0 (spec_l3Told.l0 kq l0 x3_1 x4_1 = some r) ∧ Aside0 (kq ≤ k) ∧ Aside0 (Kd.R (Kd.int .i64) 3 w' w.heap.size (fun _ => True) v3 x3_1) ∧ Aside0 (Below w.heap.size w w'))
  case atStart => exact ⟨(y201), (1), (by first | rfl | (simp; done) | (simp [*]; done)), H', ⟨Nat.le_refl _⟩, ⟨by (with_reducible repeat (first | apply Kd.R_alloc | apply Kd.R_drewN | apply Kd.R_drew)); exact HO203.out⟩, ⟨Sq.B HB⟩⟩
  case round =>
    clear H'
    try clear p2
    obtain ⟨x3_1, x4_1, rfl, HA, HK1, HO_3, HB⟩ := hrel
    cases gk with
    | zero => exact absurd HA.out (by simp [spec_l3Told.l0])
    | succ k1 =>
      have H := HA.out
      clear HA
      simp only [spec_l3Told.l0] at H
      by_cases c4 : x4_1 < (l0.length : Int)
      · rw [if_pos c4] at H
        have c4b0 : decide (x4_1 < (l0.length : Int)) = true := decide_eq_true c4
        clear c4
        by_cases c5 : 0 ≤ x4_1
        · rw [if_pos c5] at H
          have c5b0 : decide (0 ≤ x4_1) = true := decide_eq_true c5
          clear c5
          obtain ⟨bq6, hbq6⟩ : ∃ b_ : Bool, b_ = (rdOf false l0 x4_1) := ⟨_, rfl⟩
          replace H : (if bq6 = true then (if x3_1.length < 17592186044416 then (spec_l3Told.l0 k1 l0 (x3_1 ++ [x4_1]) (wrap64 (x4_1 + 1))) else (none)) else (spec_l3Told.l0 k1 l0 x3_1 (wrap64 (x4_1 + 1)))) = some r := by rw [← hbq6] at H; exact H
          have Nbq6 := Aside0.mk hbq6
          clear hbq6
          by_cases c7 : bq6 = true
          · subst c7
            rw [if_pos rfl] at H
            by_cases c8 : x3_1.length < 17592186044416
            · rw [if_pos c8] at H
              have LMc8 := Aside0.mk c8
              clear c8
              obtain ⟨y205, hy205⟩ : ∃ y_ : List Int, y_ = (x3_1 ++ [x4_1]) := ⟨_, rfl⟩
              replace H : (spec_l3Told.l0 k1 l0 y205 (wrap64 (x4_1 + 1))) = some r := by first | (rw [hy205]; with_reducible exact H) | (have H2_ := (Option.bind_some _ _).symm.trans H; rw [hy205]; with_reducible exact H2_) | (have H2_ := (Option.bind_some _ _).symm.trans H; with_reducible exact H2_) | with_reducible exact H | (rw [hy205]; exact H) | exact H
              have Ny205 := Aside0.mk hy205
              clear hy205
              have H' := Aside0.mk H
              clear H
              have p204 : 0 ≤ (x4_1 : Int) := of_decide_eq_true (by first | (with_reducible assumption) | assumption)
              have q204 : x4_1 < (l0.length : Int) := of_decide_eq_true (by first | (with_reducible assumption) | assumption)
              obtain ⟨ad204, e204, hx204_0⟩ := Kd.at_bool HR0.out x4_1 p204 q204
              (try rw [← Nbq6.out] at hx204_0)
              cases e204
              replace hx204_0 := (HB.out.cell (World.block_lt_of_cell? w _ hx204_0)).trans hx204_0
              replace p204 := eq_true p204
              replace q204 := eq_true q204
              go_wp2_with (first | ((with_reducible refine gate_builtin (b := .append) (xs := #[.tmp 16, .tmp 18]) rfl ?_); at_builtin; refine Kd.R_append (Kd.int .i64) (w0 := w) w.heap.size rfl (.tmp 16) (.tmp 18) 25 3 (.int .i64 0) 8 rfl Try.underlying25 info3 rfl (by decide) (by omega) u3 x3_1 x4_1 [.int .i64 x4_1] (fun _ => True) (fun _ => False) rfl rfl ?aP (fun _ hk => hk.elim) ?aF ?aO ?aB ?aS ?aL ?_; (case aP => exact rfl); (case aB => exact (Sq.B HB)); (case aF => exact (fun _ _ => trivial)); (case aO => exact (Sq.R HO_3)); (case aS => exact (below_size (Sq.B HB))); (case aL => have := LMc8.out; omega); intro v206 w9 ho hb hg hat; rw [← Ny205.out] at ho; have n0_ := Aside0.mk (hb); have n1_ := Aside0.mk (ho); clear HB; clear HO_3; have HB := n0_; have HO207 := n1_; clear n0_ n1_; clear ho hb hg hat))
              go_roundg k1
              case measure => have := HK1.out; omega
              case rel => exact ⟨(y205), (wrap64 (x4_1 + 1)), (by first | rfl | (simp; done) | (simp [*]; done)), H', ⟨by have := HK1.out; omega⟩, ⟨by (with_reducible repeat (first | apply Kd.R_alloc | apply Kd.R_drewN | apply Kd.R_drew)); exact HO207.out⟩, ⟨Sq.B HB⟩⟩
            · rw [if_neg c8] at H
              exact absurd H (by simp)
          · replace c7 := Bool.eq_false_iff.mpr c7
            subst c7
            rw [if_neg (show ¬ (false = true) by decide)] at H
            have H' := Aside0.mk H
            clear H
            have p204 : 0 ≤ (x4_1 : Int) := of_decide_eq_true (by first | (with_reducible assumption) | assumption)
            have q204 : x4_1 < (l0.length : Int) := of_decide_eq_true (by first | (with_reducible assumption) | assumption)
            obtain ⟨ad204, e204, hx204_0⟩ := Kd.at_bool HR0.out x4_1 p204 q204
            (try rw [← Nbq6.out] at hx204_0)
            cases e204
            replace hx204_0 := (HB.out.cell (World.block_lt_of_cell? w _ hx204_0)).trans hx204_0
            replace p204 := eq_true p204
            replace q204 := eq_true q204
            go_wp2
            go_roundg k1
            case measure => have := HK1.out; omega
            case rel => exact ⟨(x3_1), (wrap64 (x4_1 + 1)), (by first | rfl | (simp; done) | (simp [*]; done)), H', ⟨by have := HK1.out; omega⟩, ⟨by (with_reducible repeat (first | apply Kd.R_alloc | apply Kd.R_drewN | apply Kd.R_drew)); exact HO_3.out⟩, ⟨Sq.B HB⟩⟩
        · rw [if_neg c5] at H
          exact absurd H (by simp)
      · rw [if_neg c4] at H
        have c4b0 : decide (x4_1 < (l0.length : Int)) = false := decide_eq_false c4
        clear c4
        obtain rfl := Option.some.inj H
        go_wp2
        go_ret
        exact ⟨_, by first | rfl | (simp [errW_none, errW_some] <;> rfl) | (simp [*, errW_none, errW_some] <;> rfl), by (with_reducible repeat (first | apply Kd.R_alloc | apply Kd.R_drewN | apply Kd.R_drew)); exact HO_3.out, Sq.B HB⟩

/-! ### spec_l1Least: function 113 -/
def spec_l1Least.f (a0 : Int) (a1 : Int) : Option (Int) := if a0 < a1 then (some a0) else (some a1)
set_option maxHeartbeats 8000000 in
set_option maxRecDepth 100000 in
theorem spec_l1Least.calls (a0 : Int) (a1 : Int) (r : Int) (w : World) (h : spec_l1Least.f a0 a1 = some r) :
    Calls Try.prog 113 #[.int .i64 a0, .int .i64 a1] w fun e w' => e = .returned (.int .i64 r) ∧ Drawn0 w w' := by
  have H : (if a0 < a1 then (some a0) else (some a1)) = some r := h
  clear h
  by_cases c3 : a0 < a1
  · rw [if_pos c3] at H
    have c3b0 : decide (a0 < a1) = true := decide_eq_true c3
    clear c3
    obtain rfl := Option.some.inj H
    go_enter Try.func113, Try.ntmps113
    go_wp2
    go_ret
    exact ⟨by first | rfl | (simp; done) | (simp [*]; done), by repeat (first | exact Drawn0.refl _ | apply Drawn0.step)⟩
  · rw [if_neg c3] at H
    have c3b0 : decide (a0 < a1) = false := decide_eq_false c3
    clear c3
    obtain rfl := Option.some.inj H
    go_enter Try.func113, Try.ntmps113
    go_wp2
    go_ret
    exact ⟨by first | rfl | (simp; done) | (simp [*]; done), by repeat (first | exact Drawn0.refl _ | apply Drawn0.step)⟩

end Go.Proofs.Ytgnmomdgfamhnaa.PFnKits
