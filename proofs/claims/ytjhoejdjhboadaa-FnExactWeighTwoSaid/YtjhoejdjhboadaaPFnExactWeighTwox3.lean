-- Made by wip/pr.py of this repo over the kit's print (some contracts by hand).
import Derived.Test.YtjhoejdjhboadaaPFnExactWeighTwox0
import Derived.Test.YtjhoejdjhboadaaPFnExactWeighTwox2
namespace Go.Proofs.Ytjhoejdjhboadaa.PFnExactWeighTwo
open Go.RowKit Go.Proofs.YtjhoejdjhboadaaW.PrintWords Go.Proofs.YtjhoejdjhboadaaW.PrintLast Go.Proofs.YtjhoejdjhboadaaW.PrintMore
attribute [local go_sem] max2_int min2_int max_two min_two max_three min_three max_four min_four   -- for this text's walks alone
set_option linter.unusedVariables false
set_option linter.unusedSimpArgs false

/-! ### impl_IsKit: function 45 -/
def impl_IsKit.l0 : Nat → List Int → List Int → Int → Int → Option (Bool)
  | 0, _, _, _, _ => none
  | k + 1, x0, x5, x6, x7 => if x7 < x6 then (if 0 ≤ x7 then (if x7 < (x5.length : Int) then ((impl_isWeight.f (rd x5 x7)).bind fun t153 => (if t153 = true then (if x7 > 0 then (if 0 ≤ (wrap64 (x7 - 1)) then (if (wrap64 (x7 - 1)) < (x0.length : Int) then (if (rd x5 x7) < (rd x0 (wrap64 (x7 - 1))) then (some false) else (impl_IsKit.l0 k x0 x5 x6 (wrap64 (x7 + 1)))) else (none)) else (none)) else (impl_IsKit.l0 k x0 x5 x6 (wrap64 (x7 + 1)))) else (some false))) else (none)) else (none)) else ((impl_within.f (x0.length : Int) 1 6).bind fun t155 => (some t155))
def impl_IsKit.f (k : Nat) (l0 : List Int) : Option (Bool) := impl_IsKit.l0 k l0 l0 (l0.length : Int) 0
theorem impl_IsKit.mono_l : ∀ k, (∀ y0 y1 y2 y3, LeO (impl_IsKit.l0 k y0 y1 y2 y3) (impl_IsKit.l0 (k + 1) y0 y1 y2 y3))
  | 0 => fun _ _ _ _ r h => by simp [impl_IsKit.l0] at h
  | k + 1 => by
    have ih0 := impl_IsKit.mono_l k
    · intro y0 y1 y2 y3
      unfold impl_IsKit.l0
      repeat' first
      | (with_reducible exact ih0 _ _ _ _)
      | (with_reducible exact LeO.refl _)
      | (with_reducible exact LeO.none _)
      | (with_reducible refine LeO.ite ?_ ?_)
      | (with_reducible refine LeO.bind ?_ (fun _ => ?_))
      | exact ih0 _ _ _ _
      | exact LeO.none _
      | refine LeO.ite ?_ ?_
      | refine LeO.bind ?_ (fun _ => ?_)
theorem impl_IsKit.mono : ∀ a0 k, LeO (impl_IsKit.f k a0) (impl_IsKit.f (k + 1) a0) := by
  intro a0 k
  have ih0 := impl_IsKit.mono_l k
  unfold impl_IsKit.f
  repeat' first
      | (with_reducible exact ih0 _ _ _ _)
      | (with_reducible exact LeO.refl _)
      | (with_reducible exact LeO.none _)
      | (with_reducible refine LeO.ite ?_ ?_)
      | (with_reducible refine LeO.bind ?_ (fun _ => ?_))
      | exact ih0 _ _ _ _
      | exact LeO.none _
      | refine LeO.ite ?_ ?_
      | refine LeO.bind ?_ (fun _ => ?_)
set_option maxHeartbeats 8000000 in
set_option maxRecDepth 100000 in
theorem impl_IsKit.calls (k : Nat) (A0 : Option Addr) (c0 : Nat) (l0 : List Int) (r : Bool) (w : World) (hr0 : Kd.C (Kd.int .i64) w A0 l0.length l0) (hc0 : l0.length ≤ c0) (h : impl_IsKit.f k l0 = some r) :
    Calls Try.prog 45 #[.slice A0 l0.length c0] w fun e w' => e = .returned (.bool r) ∧ Drawn0 w w' := by
  have HR0 := Aside0.mk hr0
  have HC0 := Aside0.mk hc0
  clear hr0 hc0
  have H : (impl_IsKit.l0 k l0 l0 (l0.length : Int) 0) = some r := h
  clear h
  have H' := Aside0.mk H
  clear H
  go_enter Try.func45, Try.ntmps45
  go_wp2
  go_loopg [7] k (fun kq v7 w' => ∃ (x7_1 : Int), v7 = .int .i64 x7_1 ∧ Aside0 (impl_IsKit.l0 kq l0 l0 (l0.length : Int) x7_1 = some r) ∧ Aside0 (kq ≤ k) ∧ Drawn0 w w')
  case atStart => exact ⟨(0), (by first | rfl | (simp; done) | (simp [*]; done)), H', ⟨Nat.le_refl _⟩, by repeat (first | exact Drawn0.refl _ | apply Drawn0.step)⟩
  case round =>
    clear H'
    obtain ⟨x7_1, rfl, HA, HK1, ⟨m1, rfl⟩⟩ := hrel
    cases gk with
    | zero => exact absurd HA.out (by simp [impl_IsKit.l0])
    | succ k1 =>
      have H := HA.out
      clear HA
      simp only [impl_IsKit.l0] at H
      by_cases c2 : x7_1 < (l0.length : Int)
      · rw [if_pos c2] at H
        have c2b0 : decide (x7_1 < (l0.length : Int)) = true := decide_eq_true c2
        clear c2
        by_cases c3 : 0 ≤ x7_1
        · rw [if_pos c3] at H
          have c3b0 : decide (0 ≤ x7_1) = true := decide_eq_true c3
          clear c3
          by_cases c4 : x7_1 < (l0.length : Int)
          · rw [if_pos c4] at H
            have c4b0 : decide (x7_1 < (l0.length : Int)) = true := decide_eq_true c4
            clear c4
            replace H := Option.bind_eq_some_iff.mp H
            obtain ⟨t153, A50, H⟩ := H
            replace H : (if t153 = true then (if x7_1 > 0 then (if 0 ≤ (wrap64 (x7_1 - 1)) then (if (wrap64 (x7_1 - 1)) < (l0.length : Int) then (if (rd l0 x7_1) < (rd l0 (wrap64 (x7_1 - 1))) then (some false) else (impl_IsKit.l0 k1 l0 l0 (l0.length : Int) (wrap64 (x7_1 + 1)))) else (none)) else (none)) else (impl_IsKit.l0 k1 l0 l0 (l0.length : Int) (wrap64 (x7_1 + 1)))) else (some false)) = some r := H
            have A5 := Aside0.mk A50
            clear A50
            by_cases c6 : t153 = true
            · subst c6
              have H1 : (if x7_1 > 0 then (if 0 ≤ (wrap64 (x7_1 - 1)) then (if (wrap64 (x7_1 - 1)) < (l0.length : Int) then (if (rd l0 x7_1) < (rd l0 (wrap64 (x7_1 - 1))) then (some false) else (impl_IsKit.l0 k1 l0 l0 (l0.length : Int) (wrap64 (x7_1 + 1)))) else (none)) else (none)) else (impl_IsKit.l0 k1 l0 l0 (l0.length : Int) (wrap64 (x7_1 + 1)))) = some r := by rw [if_pos rfl] at H; exact H
              clear H
              have H := H1
              clear H1
              by_cases c7 : x7_1 > 0
              · rw [if_pos c7] at H
                have c7b0 : decide (0 < x7_1) = true := decide_eq_true c7
                clear c7
                obtain ⟨ji8, hji8⟩ : ∃ j_ : Int, (wrap64 (x7_1 - 1)) = j_ := ⟨_, rfl⟩
                replace H : (if 0 ≤ (ji8) then (if (ji8) < (l0.length : Int) then (if (rd l0 x7_1) < (rd l0 (ji8)) then (some false) else (impl_IsKit.l0 k1 l0 l0 (l0.length : Int) (wrap64 (x7_1 + 1)))) else (none)) else (none)) = some r := by first | (rw [hji8] at H; exact H) | (simp only [hji8] at H ⊢; exact H)
                (try rw [hji8] at A5)
                have hji8w : (IntKind.i64.wrap (x7_1 - 1)) = ji8 := (i64_w _).trans hji8
                by_cases c9 : 0 ≤ (ji8)
                · rw [if_pos c9] at H
                  have c9b0 : decide (0 ≤ (ji8)) = true := decide_eq_true c9
                  clear c9
                  by_cases c10 : (ji8) < (l0.length : Int)
                  · rw [if_pos c10] at H
                    have c10b0 : decide ((ji8) < (l0.length : Int)) = true := decide_eq_true c10
                    clear c10
                    by_cases c11 : (rd l0 x7_1) < (rd l0 (ji8))
                    · rw [if_pos c11] at H
                      have c11b0 : decide ((rd l0 x7_1) < (rd l0 (ji8))) = true := decide_eq_true c11
                      clear c11
                      obtain rfl := Option.some.inj H
                      have p152 : 0 ≤ (x7_1 : Int) := of_decide_eq_true (by first | (with_reducible assumption) | assumption)
                      have q152 : x7_1 < (l0.length : Int) := of_decide_eq_true (by first | (with_reducible assumption) | assumption)
                      obtain ⟨ad152, e152, hx152_0⟩ := Kd.at_int HR0.out x7_1 p152 q152
                      cases e152
                      replace p152 := eq_true p152
                      replace q152 := eq_true q152
                      go_wp2_with (first | ((with_reducible refine gate_callee (f := 78) rfl ?_); refine goesL_ (some 13) rfl rfl Try.func78 (by kernel_rfl) rfl #[.int .i64 (rd l0 x7_1)] rfl (by (try simp only [List.map_toArray, List.map_cons, List.map_nil]); first | done | rfl | (simp only [List.length_drop, List.length_take]; rfl)) ?_; (with_reducible refine (impl_isWeight.calls (rd l0 x7_1) true _ A5.out).mono ?_); rintro e w' ⟨rfl, ⟨nd, rfl⟩⟩; refine ⟨_, rfl, ?_⟩; have p154 : 0 ≤ ((ji8) : Int) := of_decide_eq_true (by first | (with_reducible assumption) | assumption); have q154 : (ji8) < (l0.length : Int) := of_decide_eq_true (by first | (with_reducible assumption) | assumption); obtain ⟨ad154, e154, hx154_0⟩ := Kd.at_int HR0.out (ji8) p154 q154; obtain rfl : ad152 = ad154 := (by injection e154); replace p154 := eq_true p154; replace q154 := eq_true q154))
                      go_ret
                      exact ⟨by first | rfl | (simp; done) | (simp only [← hji8] <;> (first | rfl | simp)) | (simp [*]; done), by repeat (first | exact Drawn0.refl _ | apply Drawn0.step)⟩
                    · rw [if_neg c11] at H
                      have c11b0 : decide ((rd l0 x7_1) < (rd l0 (ji8))) = false := decide_eq_false c11
                      clear c11
                      have H' := Aside0.mk H
                      clear H
                      have p152 : 0 ≤ (x7_1 : Int) := of_decide_eq_true (by first | (with_reducible assumption) | assumption)
                      have q152 : x7_1 < (l0.length : Int) := of_decide_eq_true (by first | (with_reducible assumption) | assumption)
                      obtain ⟨ad152, e152, hx152_0⟩ := Kd.at_int HR0.out x7_1 p152 q152
                      cases e152
                      replace p152 := eq_true p152
                      replace q152 := eq_true q152
                      go_wp2_with (first | ((with_reducible refine gate_callee (f := 78) rfl ?_); refine goesL_ (some 13) rfl rfl Try.func78 (by kernel_rfl) rfl #[.int .i64 (rd l0 x7_1)] rfl (by (try simp only [List.map_toArray, List.map_cons, List.map_nil]); first | done | rfl | (simp only [List.length_drop, List.length_take]; rfl)) ?_; (with_reducible refine (impl_isWeight.calls (rd l0 x7_1) true _ A5.out).mono ?_); rintro e w' ⟨rfl, ⟨nd, rfl⟩⟩; refine ⟨_, rfl, ?_⟩; have p154 : 0 ≤ ((ji8) : Int) := of_decide_eq_true (by first | (with_reducible assumption) | assumption); have q154 : (ji8) < (l0.length : Int) := of_decide_eq_true (by first | (with_reducible assumption) | assumption); obtain ⟨ad154, e154, hx154_0⟩ := Kd.at_int HR0.out (ji8) p154 q154; obtain rfl : ad152 = ad154 := (by injection e154); replace p154 := eq_true p154; replace q154 := eq_true q154))
                      go_roundg k1
                      case measure => have := HK1.out; omega
                      case rel => exact ⟨(wrap64 (x7_1 + 1)), (by first | rfl | (simp; done) | (simp [*]; done)), H', ⟨by have := HK1.out; omega⟩, by repeat (first | exact Drawn0.refl _ | apply Drawn0.step)⟩
                  · rw [if_neg c10] at H
                    exact absurd H (by simp)
                · rw [if_neg c9] at H
                  exact absurd H (by simp)
              · rw [if_neg c7] at H
                have c7b0 : decide (0 < x7_1) = false := decide_eq_false c7
                clear c7
                have H' := Aside0.mk H
                clear H
                have p152 : 0 ≤ (x7_1 : Int) := of_decide_eq_true (by first | (with_reducible assumption) | assumption)
                have q152 : x7_1 < (l0.length : Int) := of_decide_eq_true (by first | (with_reducible assumption) | assumption)
                obtain ⟨ad152, e152, hx152_0⟩ := Kd.at_int HR0.out x7_1 p152 q152
                cases e152
                replace p152 := eq_true p152
                replace q152 := eq_true q152
                go_wp2_with (first | ((with_reducible refine gate_callee (f := 78) rfl ?_); refine goesL_ (some 13) rfl rfl Try.func78 (by kernel_rfl) rfl #[.int .i64 (rd l0 x7_1)] rfl (by (try simp only [List.map_toArray, List.map_cons, List.map_nil]); first | done | rfl | (simp only [List.length_drop, List.length_take]; rfl)) ?_; (with_reducible refine (impl_isWeight.calls (rd l0 x7_1) true _ A5.out).mono ?_); rintro e w' ⟨rfl, ⟨nd, rfl⟩⟩; refine ⟨_, rfl, ?_⟩))
                go_roundg k1
                case measure => have := HK1.out; omega
                case rel => exact ⟨(wrap64 (x7_1 + 1)), (by first | rfl | (simp; done) | (simp [*]; done)), H', ⟨by have := HK1.out; omega⟩, by repeat (first | exact Drawn0.refl _ | apply Drawn0.step)⟩
            · replace c6 := Bool.eq_false_iff.mpr c6
              subst c6
              have H1 : (some false) = some r := by rw [if_neg (show ¬ (false = true) by decide)] at H; exact H
              clear H
              have H := H1
              clear H1
              obtain rfl := Option.some.inj H
              have p152 : 0 ≤ (x7_1 : Int) := of_decide_eq_true (by first | (with_reducible assumption) | assumption)
              have q152 : x7_1 < (l0.length : Int) := of_decide_eq_true (by first | (with_reducible assumption) | assumption)
              obtain ⟨ad152, e152, hx152_0⟩ := Kd.at_int HR0.out x7_1 p152 q152
              cases e152
              replace p152 := eq_true p152
              replace q152 := eq_true q152
              go_wp2_with (first | ((with_reducible refine gate_callee (f := 78) rfl ?_); refine goesL_ (some 13) rfl rfl Try.func78 (by kernel_rfl) rfl #[.int .i64 (rd l0 x7_1)] rfl (by (try simp only [List.map_toArray, List.map_cons, List.map_nil]); first | done | rfl | (simp only [List.length_drop, List.length_take]; rfl)) ?_; (with_reducible refine (impl_isWeight.calls (rd l0 x7_1) false _ A5.out).mono ?_); rintro e w' ⟨rfl, ⟨nd, rfl⟩⟩; refine ⟨_, rfl, ?_⟩))
              go_ret
              exact ⟨by first | rfl | (simp; done) | (simp [*]; done), by repeat (first | exact Drawn0.refl _ | apply Drawn0.step)⟩
          · rw [if_neg c4] at H
            exact absurd H (by simp)
        · rw [if_neg c3] at H
          exact absurd H (by simp)
      · rw [if_neg c2] at H
        have c2b0 : decide (x7_1 < (l0.length : Int)) = false := decide_eq_false c2
        clear c2
        replace H := Option.bind_eq_some_iff.mp H
        obtain ⟨t155, A120, H⟩ := H
        replace H : (some t155) = some r := H
        have A12 := Aside0.mk A120
        clear A120
        obtain rfl := Option.some.inj H
        go_wp2_with (first | ((with_reducible refine gate_callee (f := 55) rfl ?_); refine goesL_ (some 31) rfl rfl Try.func55 (by kernel_rfl) rfl #[.int .i64 (l0.length : Int), .int .i64 1, .int .i64 6] rfl (by (try simp only [List.map_toArray, List.map_cons, List.map_nil]); first | done | rfl | (simp only [List.length_drop, List.length_take]; rfl)) ?_; (with_reducible refine (impl_within.calls (l0.length : Int) 1 6 t155 _ A12.out).mono ?_); rintro e w' ⟨rfl, ⟨nd, rfl⟩⟩; refine ⟨_, rfl, ?_⟩))
        go_ret
        exact ⟨by first | rfl | (simp; done) | (simp [*]; done), by repeat (first | exact Drawn0.refl _ | apply Drawn0.step)⟩

-- NOT PRINTED: function 79 (impl_eachSigns_1)

/-! ### impl_eachSigns: function 46 -/
namespace impl_eachSigns
/-- Signs from g on. -/
def upto (g : Int) : List Int := if g ≤ -1 then [-1, 0, 1] else if g = 0 then [0, 1] else if g = 1 then [1] else []
theorem upto_cons {g : Int} (h0 : -1 ≤ g) (h1 : g ≤ 1) : upto g = g :: upto (g + 1) := by
  rcases (show g = -1 ∨ g = 0 ∨ g = 1 by omega) with rfl | rfl | rfl <;> rfl
theorem upto_nil {g : Int} (h : 1 < g) : upto g = [] := by
  unfold upto
  rw [if_neg (by omega), if_neg (by omega), if_neg (by omega)]
/-- What is told of all signs, one behind the other. -/
def eachG {σ : Type} (tf : σ → List Int → Int → Option σ) (low : Int) : List Int → List Int → Int → σ → Option σ
  | [], pre, sum, s => tf s pre sum
  | x :: rest, pre, sum, s => (upto low).foldlM (fun s g => eachG tf low rest (pre ++ [g]) (wrap64 (sum + wrap64 (g * x))) s) s
def mine (B : Nat) (k : Nat) : Prop := B ≤ k ∧ k < B + 6
def captured (B : Nat) : Array Value := #[.pointer (some ⟨B, 0, none⟩), .pointer (some ⟨B + 2, 0, none⟩), .pointer (some ⟨B + 4, 0, none⟩), .pointer (some ⟨B + 1, 0, none⟩), .pointer (some ⟨B + 5, 0, none⟩)]
/-- The six blocks of a call. -/
structure Own (A : Option Addr) (ck : Nat) (kit : List Int) (low : Int) (tell : Value) (vs : Value) (B : Nat) (cur : List Int) (W : World) : Prop where
  kitB : W.cell? ⟨B, 0, none⟩ = some (.slice A kit.length ck)
  lowB : W.cell? ⟨B + 1, 0, none⟩ = some (.int .i64 low)
  tellB : W.cell? ⟨B + 2, 0, none⟩ = some tell
  signsB : W.cell? ⟨B + 4, 0, none⟩ = some vs
  fromB : W.cell? ⟨B + 5, 0, none⟩ = some (.func (.func 79) #[] (captured B))
  row : Kd.R (Kd.int .i64) 3 W B (fun k => k = B + 3) vs cur
  size : B + 6 ≤ W.heap.size
theorem Own.kept {A : Option Addr} {ck : Nat} {kit : List Int} {low : Int} {tell vs : Value} {B : Nat} {cur : List Int} {W W2 : World} (h : Own A ck kit low tell vs B cur W) (hk : Kept W W2 (fun k => ¬ mine B k)) : Own A ck kit low tell vs B cur W2 where
  kitB := cell_kept h.kitB hk (by simp only [mine, Classical.not_not]; omega)
  lowB := cell_kept h.lowB hk (by simp only [mine, Classical.not_not]; omega)
  tellB := cell_kept h.tellB hk (by simp only [mine, Classical.not_not]; omega)
  signsB := cell_kept h.signsB hk (by simp only [mine, Classical.not_not]; omega)
  fromB := cell_kept h.fromB hk (by simp only [mine, Classical.not_not]; omega)
  row := Kd.R_kept h.row hk (fun k e => by subst e; simp only [mine, Classical.not_not]; omega)
  size := Nat.le_trans h.size hk.1
theorem gate {P : Program} {args : Array Value} {w : World} {Q : Ending → World → Prop} (f : FuncId) (h : Calls P f args w Q) : Calls P f args w Q := h
set_option maxHeartbeats 8000000 in
set_option maxRecDepth 100000 in
theorem leaf {σ : Type} (I : σ → World → Prop) (tf : σ → List Int → Int → Option σ) (A : Option Addr) (ck : Nat) (kit : List Int) (low : Int) (tfn : FuncId) (caps : Array Value) (vs : Value) (B : Nat)
    (eg : Enters Try.prog tfn)
    (htell : ∀ (s : σ) (W : World) (x : List Int) (sum : Int) (s' : σ), I s W → B + 6 ≤ W.heap.size → x.length = kit.length → Kd.R (Kd.int .i64) 3 W B (fun k => k = B + 3) vs x → tf s x sum = some s' → Calls Try.prog tfn (#[vs, .int .i64 sum] ++ caps) W fun e W' => e = .returned (.tuple #[]) ∧ I s' W' ∧ Kept W W' (fun k => ¬ mine B k))
    (cur : List Int) (sum : Int) (s sf : σ) (W : World) (ho : Own A ck kit low (.func (.func tfn) #[] caps) vs B cur W) (hc : cur.length = kit.length) (hi : I s W) (h : tf s cur sum = some sf) :
    Calls Try.prog 79 (#[.int .i64 kit.length, .int .i64 sum] ++ captured B) W fun e W' => e = .returned (.tuple #[]) ∧ ∃ cur', Own A ck kit low (.func (.func tfn) #[] caps) vs B cur' W' ∧ cur'.length = kit.length ∧ cur'.take kit.length = cur.take kit.length ∧ I sf W' := by
  have HT := Aside0.mk (htell s W cur sum sf hi ho.size hc ho.row h)
  have HO := Aside0.mk ho
  have HC := Aside0.mk hc
  have h0 := ho.kitB
  have h1 := ho.tellB
  have h2 := ho.signsB
  clear htell hi h hc ho
  have eg2 : ∀ args w, (callFunc tfn args).run Try.prog w = .ok (.enter tfn args) w := fun args w => eg args w
  clear eg
  unfold captured
  go_enter Try.func79, Try.ntmps79
  go_wp2_with (((with_reducible refine gate tfn ?_); refine HT.out.mono ?_; rintro e w' ⟨rfl, hI, hk⟩; have HI := Aside0.mk hI; have HK := Aside0.mk hk; clear hI hk))
  (try simp only [Exit.inBlock, Exit.then]); refine bodyPost_ret (results_none rfl _ _ _) rfl ?_
  exact ⟨rfl, cur, HO.out.kept HK.out, HC.out, rfl, HI.out⟩

def T6 : Bool × List (List Nat × List Nat) := (true, [([], []), ([], []), ([1], [1]), ([], []), ([], []), ([], []), ([], []), ([5, 6], [5, 6]), ([7], [7]), ([4, 8], [4, 8]), ([3, 9], [3, 9]), ([0, 2, 10], [0, 2, 10])])
def B6 : List Nat := [0, 0, 2, 0, 0, 0, 0, 96, 224, 496, 1016, 2047]
theorem tab6 : rtab .any (opsOf Try.f79 6) = T6 := by kernel_rfl
theorem bits6 : waitsOk T6.2 B6 = true := by kernel_rfl
set_option maxHeartbeats 8000000 in
set_option maxRecDepth 100000 in
theorem branch {σ : Type} (I : σ → World → Prop) (tf : σ → List Int → Int → Option σ) (ad : Addr) (ck : Nat) (kit : List Int) (low : Int) (tell : Value) (vs : Value) (B : Nat) (hl0 : -1 ≤ low) (hl1 : low ≤ 2)
    (at_ : Nat) (x : Int) (hxk : ∀ (s : σ) (W : World), I s W → W.cell? (ad.add at_) = some (.int .i64 x))
    (hIo : ∀ (s : σ) (W W2 : World), I s W → B ≤ W.heap.size → Below B W W2 → Kept W W2 (mine B) → I s W2)
    (rest : List Int) (hat : at_ < kit.length) (hlen : kit.length ≤ 4611686018427387904)
    (hrec : ∀ (cur1 : List Int) (sum1 : Int) (s1 s2 : σ) (W1 : World), Own (some ad) ck kit low tell vs B cur1 W1 → cur1.length = kit.length → I s1 W1 → eachG tf low rest (cur1.take (at_ + 1)) sum1 s1 = some s2 → Calls Try.prog 79 (#[.int .i64 (wrap64 (at_ + 1)), .int .i64 sum1] ++ captured B) W1 fun e W' => e = .returned (.tuple #[]) ∧ ∃ cur', Own (some ad) ck kit low tell vs B cur' W' ∧ cur'.length = kit.length ∧ cur'.take (at_ + 1) = cur1.take (at_ + 1) ∧ I s2 W')
    (cur : List Int) (sum : Int) (s sf : σ) (W : World) (ho : Own (some ad) ck kit low tell vs B cur W) (hc : cur.length = kit.length) (hi : I s W) (h : eachG tf low (x :: rest) (cur.take at_) sum s = some sf) :
    Calls Try.prog 79 (#[.int .i64 at_, .int .i64 sum] ++ captured B) W fun e W' => e = .returned (.tuple #[]) ∧ ∃ cur', Own (some ad) ck kit low tell vs B cur' W' ∧ cur'.length = kit.length ∧ cur'.take at_ = cur.take at_ ∧ I sf W' := by
  have E79 := Aside0.mk (enters_of (P := Try.prog) Try.func79 (by kernel_rfl) rfl)
  obtain ⟨go, co, ev, gb, gl, cl, HG⟩ := Kd.R_form ho.row (by omega)
  obtain rfl : go = B + 3 := ho.row.1 go (by rw [ev]; rfl)
  rw [hc] at ev
  subst ev
  clear gb gl HG cl
  have hne : ((at_ : Int) == (kit.length : Int)) = false := beq_eq_false_iff_ne.2 (by omega)
  have H : (upto low).foldlM (fun s g => eachG tf low rest (cur.take at_ ++ [g]) (wrap64 (sum + wrap64 (g * x))) s) s = some sf := h
  clear h
  generalize hF : (fun s g => eachG tf low rest (cur.take at_ ++ [g]) (wrap64 (sum + wrap64 (g * x))) s) = F at H
  have HF := Aside0.mk hF
  clear hF
  have H' := Aside0.mk H
  have HO := Aside0.mk ho
  have HI := Aside0.mk hi
  have HC := Aside0.mk hc
  have HREC := Aside0.mk hrec
  have HIO := Aside0.mk hIo
  have h0 := ho.kitB
  have h1 := ho.lowB
  clear hi H hc ho hrec hIo
  unfold captured
  go_enter Try.func79, Try.ntmps79
  go_wp2
  go_loopg [9] 4 (fun gg v9 w' => ∃ (g : Int) (cur1 : List Int) (s1 : σ), v9 = .int .i64 g ∧ -1 ≤ g ∧ g ≤ 2 ∧ (2 - g).toNat < gg ∧ Aside0 (Own (some ad) ck kit low tell (.slice (some ⟨B + 3, 0, none⟩) kit.length co) B cur1 w') ∧ Aside0 (cur1.length = kit.length) ∧ Aside0 (cur1.take at_ = cur.take at_) ∧ Aside0 (I s1 w') ∧ Aside0 ((upto g).foldlM F s1 = some sf))
  case atStart => exact ⟨low, cur, s, rfl, hl0, hl1, by omega, HO, HC, ⟨rfl⟩, HI, H'⟩
  case round =>
    clear H' HI HO
    clear h0 h1
    obtain ⟨g, cur1, s1, rfl, g0, g1, hgg, HO, HC1, HT, HI, H'⟩ := hrel
    by_cases hg : g ≤ 1
    · have hle : decide (g ≤ 1) = true := decide_eq_true hg
      obtain ⟨s2, A1, A2⟩ : ∃ s2, F s1 g = some s2 ∧ (upto (g + 1)).foldlM F s2 = some sf := by
        have z := H'.out
        rw [upto_cons g0 hg, List.foldlM_cons] at z
        exact Option.bind_eq_some_iff.1 z
      clear H'
      rw [← HF.out] at A1
      have A1' := Aside0.mk A1
      have A2' := Aside0.mk A2
      clear A1 A2
      have p5 : (0 : Int) ≤ (at_ : Int) := Int.natCast_nonneg _
      have q5 : (at_ : Int) < ((kit.length : Int) : Int) := by omega
      have h2 := HO.out.signsB
      obtain ⟨hx5, hf5⟩ := Kd.R_celln 0 HO.out.row (at_ : Int) p5 q5
      have HP := Aside0.mk (Kd.R_putg HO.out.row (at_ : Int) g)
      rw [Int.toNat_natCast] at HP hx5 hf5
      replace p5 := eq_true p5
      replace q5 := eq_true q5
      have hb0 : B ≤ wr.heap.size := by have := HO.out.size; omega
      have HB0 := Aside0.mk hb0
      clear hb0
      go_wp2_with (first | ((with_reducible refine gate_store (t := 3) (p := 26) rfl ?_); refine store_event (t := 3) (p := 26) (v := ?vo_w9) (w1 := (wr.setCell ⟨B + 3, at_, none⟩ (.int .i64 g))) ?hg ?ho ?hn ?hr ?_; (case ho => rfl); (case hg => rfl); (case hn => rfl); (case hr => first | (go_simp; done) | (go_simp; rfl)); intro w9 hw; have HW := Aside0.mk hw; clear hw))
      have hgr : wr.grownBy w9 (some (B + 3)) := by rw [HW.out]; exact HP.out.2
      have hrow : Kd.R (Kd.int .i64) 3 w9 B (fun k => k = B + 3) (.slice (some ⟨B + 3, 0, none⟩) kit.length co) (cur1.set at_ g) := by rw [HW.out]; exact HP.out.1
      have hown : Own (some ad) ck kit low tell (.slice (some ⟨B + 3, 0, none⟩) kit.length co) B (cur1.set at_ g) w9 :=
        { kitB := cell_grown hgr HO.out.kitB (by simp), lowB := cell_grown hgr HO.out.lowB (by simp), tellB := cell_grown hgr HO.out.tellB (by simp), signsB := cell_grown hgr HO.out.signsB (by simp), fromB := cell_grown hgr HO.out.fromB (by simp), row := hrow, size := Nat.le_trans HO.out.size (Kept.of_grown hgr (Kept.refl wr (mine B)) (fun k e => .inl (by cases e; simp only [mine]; omega))).1 }
      have hi9 : I s1 w9 := HIO.out s1 wr w9 HI.out HB0.out (by rw [HW.out]; exact (Below.refl B wr).setCell (p := ⟨B + 3, at_, none⟩) (show B ≤ B + 3 by omega) _) (Kept.of_grown hgr (Kept.refl wr (mine B)) (fun k e => .inl (by cases e; simp only [mine]; omega)))
      have hown' : Own (some ad) ck kit low tell (.slice (some ⟨B + 3, 0, none⟩) kit.length co) B (cur1.set at_ g) w9.drew := hown.kept ((Kept.refl _ _).drew)
      have hi' : I s1 w9.drew := HIO.out s1 w9 w9.drew hi9 (by have := hown.size; omega) (below_drew (Below.refl _ _)) ((Kept.refl _ _).drew)
      clear hi9 hown hrow hgr HP HW HO HI
      have HF5 := Aside0.mk (show Own (some ad) ck kit low tell (.slice (some ⟨B + 3, 0, none⟩) kit.length co) B (cur1.set at_ g) w9.drew from hown')
      have hset : (cur1.set at_ g).take (at_ + 1) = cur.take at_ ++ [g] := by
        rw [← HT.out, List.take_add_one, List.take_set_of_le (Nat.le_refl _), List.getElem?_set_self (by rw [HC1.out]; exact hat)]; rfl
      have HCALL := Aside0.mk (HREC.out (cur1.set at_ g) (wrap64 (sum + wrap64 (g * x))) s1 s2 w9.drew hown' (by rw [List.length_set]; exact HC1.out) hi' (by rw [hset]; exact A1'.out))
      have k0 := hown'.fromB
      have k1 := hown'.kitB
      have k2 := hxk s1 w9.drew hi'
      clear hown' hi'
      refine start_ (n := 12) (S := fun w' => w'.cell? ⟨B + 5, 0, none⟩ = some (.func (.func 79) #[] (captured B)) ∧ w'.cell? ⟨B, 0, none⟩ = some (.slice (some ad) kit.length ck) ∧ w'.cell? (ad.add at_) = some (.int .i64 x)) (ds := []) #[false, false, false, false, false, false, false, false, false, false, false, false] (by kernel_rfl) rfl rfl ⟨k0, k1, k2⟩ (fun hHeld => ?_); refine with_tabW tab6 bits6 (fun HT_ HW_ => ?_)
      clear k0 k1 k2
      generalize w9.drew = w10 at HCALL HF5 hHeld ⊢
      refine pure_ (i := 1) (N := some 28) (v := ?_) (a' := ?_) #[false, true, false, false, false, false, false, false, false, false, false, false] rfl rfl (any_of HT_.out (by kernel_rfl)) (fun _ _ _ h => h) (Or.inl ⟨by rfl, ?_⟩) ?_ ?_
      rotate_left
      · intro w'
        go_simp
        with_reducible rfl
      rotate_left
      · simp only [Act.put, List.setIfInBounds_toArray, List.set_cons_zero, List.set_cons_succ, i64_w, i32_w]
        rfl
      refine pure_ (i := 2) (N := some 29) (v := ?_) (a' := ?_) #[false, true, true, false, false, false, false, false, false, false, false, false] rfl rfl (any_of HT_.out (by kernel_rfl)) (fun _ _ _ h => h) (Or.inl ⟨by rfl, ?_⟩) ?_ ?_
      rotate_left
      · intro w'
        go_simp
        with_reducible rfl
      rotate_left
      · simp only [Act.put, List.setIfInBounds_toArray, List.set_cons_zero, List.set_cons_succ, i64_w, i32_w]
        rfl
      refine pure_ (i := 3) (N := some 30) (v := ?_) (a' := ?_) #[false, true, true, true, false, false, false, false, false, false, false, false] rfl rfl (any_of HT_.out (by kernel_rfl)) (fun _ _ _ h => h) (Or.inl ⟨by rfl, ?_⟩) ?_ ?_
      rotate_left
      · intro w'
        go_simp
        with_reducible rfl
      rotate_left
      · simp only [Act.put, List.setIfInBounds_toArray, List.set_cons_zero, List.set_cons_succ, i64_w, i32_w]
        rfl
      refine pure_ (i := 4) (N := some 31) (v := ?_) (a' := ?_) #[false, true, true, true, true, false, false, false, false, false, false, false] rfl rfl (any_of HT_.out (by kernel_rfl)) (fun _ _ _ h => h) (Or.inl ⟨by rfl, ?_⟩) ?_ ?_
      rotate_left
      · intro w'
        go_simp
        with_reducible rfl
      rotate_left
      · simp only [Act.put, List.setIfInBounds_toArray, List.set_cons_zero, List.set_cons_succ, i64_w, i32_w]
        rfl
      refine pure_ (i := 6) (N := some 33) (v := ?_) (a' := ?_) #[false, true, true, true, true, false, true, false, false, false, false, false] rfl rfl (any_of HT_.out (by kernel_rfl)) (fun _ _ _ h => h) (Or.inl ⟨by rfl, ?_⟩) ?_ ?_
      rotate_left
      · intro w'
        go_simp
        with_reducible rfl
      rotate_left
      · simp only [Act.put, List.setIfInBounds_toArray, List.set_cons_zero, List.set_cons_succ, i64_w, i32_w]
        rfl
      refine take_ (i := 0) (N := some 27) (v := ?_) (a' := ?_) #[true, true, true, true, true, false, true, false, false, false, false, false] rfl rfl (take_ofW HT_.out HW_.out (by kernel_rfl)) (fun _ _ _ h => h) (Or.inl ⟨by rfl, ?_⟩) hHeld ?_ ?_
      rotate_left
      · rintro w' ⟨s0, s1, s2⟩
        go_simp
        with_reducible rfl
      rotate_left
      · simp only [Act.put, List.setIfInBounds_toArray, List.set_cons_zero, List.set_cons_succ, i64_w, i32_w]
        rfl
      refine take_ (i := 5) (N := some 32) (v := ?_) (a' := ?_) #[true, true, true, true, true, true, true, false, false, false, false, false] rfl rfl (take_ofW HT_.out HW_.out (by kernel_rfl)) (fun _ _ _ h => h) (Or.inl ⟨by rfl, ?_⟩) hHeld ?_ ?_
      rotate_left
      · rintro w' ⟨s0, s1, s2⟩
        go_simp
        with_reducible rfl
      rotate_left
      · simp only [Act.put, List.setIfInBounds_toArray, List.set_cons_zero, List.set_cons_succ, i64_w, i32_w]
        rfl
      refine take_ (i := 7) (N := some 34) (v := ?_) (a' := ?_) #[true, true, true, true, true, true, true, true, false, false, false, false] rfl rfl (take_ofW HT_.out HW_.out (by kernel_rfl)) (fun _ _ _ h => h) (Or.inl ⟨by rfl, ?_⟩) hHeld ?_ ?_
      rotate_left
      · rintro w' ⟨s0, s1, s2⟩
        go_simp
        with_reducible rfl
      rotate_left
      · simp only [Act.put, List.setIfInBounds_toArray, List.set_cons_zero, List.set_cons_succ, i64_w, i32_w]
        rfl
      refine take_ (i := 8) (N := some 35) (v := ?_) (a' := ?_) #[true, true, true, true, true, true, true, true, true, false, false, false] rfl rfl (take_ofW HT_.out HW_.out (by kernel_rfl)) (fun _ _ _ h => h) (Or.inl ⟨by rfl, ?_⟩) hHeld ?_ ?_
      rotate_left
      · rintro w' ⟨s0, s1, s2⟩
        go_simp
        with_reducible rfl
      rotate_left
      · simp only [Act.put, List.setIfInBounds_toArray, List.set_cons_zero, List.set_cons_succ, i64_w, i32_w]
        rfl
      refine take_ (i := 9) (N := some 36) (v := ?_) (a' := ?_) #[true, true, true, true, true, true, true, true, true, true, false, false] rfl rfl (take_ofW HT_.out HW_.out (by kernel_rfl)) (fun _ _ _ h => h) (Or.inl ⟨by rfl, ?_⟩) hHeld ?_ ?_
      rotate_left
      · rintro w' ⟨s0, s1, s2⟩
        go_simp
        with_reducible rfl
      rotate_left
      · simp only [Act.put, List.setIfInBounds_toArray, List.set_cons_zero, List.set_cons_succ, i64_w, i32_w]
        rfl
      refine take_ (i := 10) (N := some 37) (v := ?_) (a' := ?_) #[true, true, true, true, true, true, true, true, true, true, true, false] rfl rfl (take_ofW HT_.out HW_.out (by kernel_rfl)) (fun _ _ _ h => h) (Or.inl ⟨by rfl, ?_⟩) hHeld ?_ ?_
      rotate_left
      · rintro w' ⟨s0, s1, s2⟩
        go_simp
        with_reducible rfl
      rotate_left
      · simp only [Act.put, List.setIfInBounds_toArray, List.set_cons_zero, List.set_cons_succ, i64_w, i32_w]
        rfl
      refine one_ (i := 11) (N := some 38) #[true, true, true, true, true, true, true, true, true, true, true, true] rfl rfl (one_of HT_.out (by kernel_rfl)) (by decide) (fun K hK => ?_)
      refine Fnv.goesF_ E79.out #[.int .i64 (wrap64 (at_ + 1)), .int .i64 (wrap64 (sum + wrap64 (g * x)))] (by rfl) rfl rfl rfl (by (try simp only [List.map_toArray, List.map_cons, List.map_nil]); first | done | rfl | (simp only [List.length_drop, List.length_take]; rfl)) ?_
      refine HCALL.out.mono ?_
      rintro e w' ⟨rfl, cur2, hO2, hC2, hT2, hI2⟩
      refine ⟨_, rfl, ?_⟩
      refine hK.out _ _ ⟨hO2.fromB, hO2.kitB, hxk s2 w' hI2⟩ (fun hHeld => ?_)
      clear hK K
      refine norm_ (a' := ?_) ?_ ?_
      rotate_left
      · show Act.put _ (some 38) _ = _
        simp only [Act.put, List.setIfInBounds_toArray, List.set_cons_zero, List.set_cons_succ, i64_w, i32_w]
        rfl
      refine done_ (done_of HT_.out (by kernel_rfl)) ?_
      clear HCALL HF5
      have HO2 := Aside0.mk hO2
      have HC2 := Aside0.mk hC2
      have HI2 := Aside0.mk hI2
      have HT2 := Aside0.mk (show cur2.take at_ = cur.take at_ by
        have z := congrArg (List.take at_) (hT2.trans hset)
        rw [List.take_take, Nat.min_eq_left (Nat.le_succ _)] at z
        rw [z, List.take_append_of_le_length (by rw [List.length_take, HC.out]; omega), List.take_take, Nat.min_self])
      clear hO2 hC2 hI2 hT2 hset
      try go_wp2
      go_roundg ((2 - g).toNat)
      case measure => omega
      case rel => exact ⟨g + 1, cur2, s2, by go_num, by omega, by omega, by omega, HO2, HC2, HT2, HI2, A2'⟩
    · have hle : decide (g ≤ 1) = false := decide_eq_false hg
      have z := H'.out
      rw [upto_nil (by omega)] at z
      obtain rfl : s1 = sf := Option.some.inj z
      clear z H'
      go_wp2
      go_end0
      exact ⟨rfl, cur1, HO.out, HC1.out, HT.out, HI.out⟩
theorem from_calls {σ : Type} (I : σ → World → Prop) (tf : σ → List Int → Int → Option σ) (A : Option Addr) (ck : Nat) (kit : List Int) (low : Int) (tfn : FuncId) (caps : Array Value) (vs : Value) (B : Nat) (hl0 : -1 ≤ low) (hl1 : low ≤ 2) (hlen : kit.length ≤ 4611686018427387904)
    (eg : Enters Try.prog tfn)
    (hIk : ∀ (s : σ) (W : World), I s W → Kd.C (Kd.int .i64) W A kit.length kit)
    (hIo : ∀ (s : σ) (W W2 : World), I s W → B ≤ W.heap.size → Below B W W2 → Kept W W2 (mine B) → I s W2)
    (htell : ∀ (s : σ) (W : World) (x : List Int) (sum : Int) (s' : σ), I s W → B + 6 ≤ W.heap.size → x.length = kit.length → Kd.R (Kd.int .i64) 3 W B (fun k => k = B + 3) vs x → tf s x sum = some s' → Calls Try.prog tfn (#[vs, .int .i64 sum] ++ caps) W fun e W' => e = .returned (.tuple #[]) ∧ I s' W' ∧ Kept W W' (fun k => ¬ mine B k)) :
    ∀ (rest : List Int) (at_ : Nat) (cur : List Int) (sum : Int) (s sf : σ) (W : World), kit.drop at_ = rest → at_ ≤ kit.length → Own A ck kit low (.func (.func tfn) #[] caps) vs B cur W → cur.length = kit.length → I s W → eachG tf low rest (cur.take at_) sum s = some sf →
      Calls Try.prog 79 (#[.int .i64 at_, .int .i64 sum] ++ captured B) W fun e W' => e = .returned (.tuple #[]) ∧ ∃ cur', Own A ck kit low (.func (.func tfn) #[] caps) vs B cur' W' ∧ cur'.length = kit.length ∧ cur'.take at_ = cur.take at_ ∧ I sf W' := by
  intro rest
  induction rest with
  | nil =>
    intro at_ cur sum s sf W hd hat ho hc hi h
    have he : at_ = kit.length := by have := List.drop_eq_nil_iff.1 hd; omega
    subst he
    rw [← hc, List.take_length] at h
    exact leaf I tf A ck kit low tfn caps vs B eg htell cur sum s sf W ho hc hi h
  | cons x rest ih =>
    intro at_ cur sum s sf W hd hat ho hc hi h
    have hlt : at_ < kit.length := by
      rcases Nat.lt_or_ge at_ kit.length with h' | h'
      · exact h'
      · rw [List.drop_eq_nil_of_le h'] at hd; cases hd
    have hx : kit[at_]'hlt = x ∧ kit.drop (at_ + 1) = rest := by
      rw [List.drop_eq_getElem_cons hlt] at hd
      injection hd with h1 h2
      exact ⟨h1, h2⟩
    have hel : ∀ (s : σ) (W : World), I s W → ∃ ad, A = some ad ∧ W.cell? (ad.add at_) = some (.int .i64 x) := by
      intro s W hi
      obtain ⟨ad, ea, hcell⟩ := Kd.at_int (hIk s W hi) (at_ : Int) (by omega) (by omega)
      rw [Int.toNat_natCast] at hcell
      have : rd kit (at_ : Int) = x := by
        unfold rd
        rw [Int.toNat_natCast, List.getD_eq_getElem?_getD, List.getElem?_eq_getElem hlt]
        exact hx.1
      rw [this] at hcell
      exact ⟨ad, ea, hcell⟩
    obtain ⟨ad, ea, _⟩ := hel s W hi
    subst ea
    refine branch I tf ad ck kit low _ vs B hl0 hl1 at_ x (fun s W hi => ?_) hIo rest hlt hlen (fun cur1 sum1 s1 s2 W1 ho1 hc1 hi1 h1 => ?_) cur sum s sf W ho hc hi h
    · obtain ⟨ad2, e2, hcell⟩ := hel s W hi
      cases e2
      exact hcell
    · have e : wrap64 ((at_ : Int) + 1) = ((at_ + 1 : Nat) : Int) := by unfold wrap64; omega
      rw [e]
      exact ih (at_ + 1) cur1 sum1 s1 s2 W1 hx.2 (by omega) ho1 hc1 hi1 h1
theorem row_new (W : World) (base m : Nat) (hb : base ≤ W.heap.size) (hm : m ≤ 9223372036854775807) : Kd.R (Kd.int .i64) 3 (W.alloc (.cells (madeCells (Value.int .i64 0).cells (m * 1)) 3)) base (fun k => k = W.heap.size) (.slice (some ⟨W.heap.size, 0, none⟩) m m) (List.replicate m 0) := by
  have hrep : Reps ((Kd.int .i64).M W base (fun _ => True)) 1 (List.replicate m (0 : Int)) (madeCells (Value.int .i64 0).cells (m * 1)).toList := Kd.reps_made (R := (Kd.int .i64).M W base (fun _ => True)) (z := .int .i64 0) (size := 1) (z0 := 0) rfl (Nat.zero_lt_one) rfl m
  refine ⟨fun k hk => ?_, (madeCells (Value.int .i64 0).cells (m * 1)).toList, ?_, ?_⟩
  · have : W.heap.size = k := by simpa [Value.ownBlock] using hk
    exact this.symm
  · have h2 := World.ownsRow_lit (base := base) (e := 3) (size := 1) W (madeCells (Value.int .i64 0).cells (m * 1)) m hb (by simpa [maxLen] using hm) (by simp [size_madeCells])
    rw [List.length_replicate]
    exact h2
  · exact hrep.imp_ (fun p c hp => hp)
theorem run_store_func {P : Program} {w : World} {a : Addr} {m : Mode} (f : Fn) (x y : Array Value) : (store a (.func f x y) m).run P w = stored P w a (.func f x y) m := run_store P w a _ m rfl
attribute [local go_sem] run_store_func
theorem sizes (w : World) (o : Obj) (n : Nat) (h : w.heap.size = n) : (w.alloc o).heap.size = n + 1 ∧ (w.alloc o).heap[n]? = some o := by
  subst h
  exact ⟨World.size_alloc _ _, blk_new w o⟩
theorem six (w W : World) (o0 o1 o2 o3 o4 o5 : Obj) (e : ((((((w.alloc o0).alloc o1).alloc o2).alloc o3).alloc o4).alloc o5) = W) : W.heap.size = w.heap.size + 6 ∧ Below w.heap.size w W ∧ W.heap[w.heap.size]? = some o0 ∧ W.heap[w.heap.size + 1]? = some o1 ∧ W.heap[w.heap.size + 2]? = some o2 ∧ W.heap[w.heap.size + 4]? = some o4 ∧ W.heap[w.heap.size + 5]? = some o5 := by
  subst e
  obtain ⟨s1, h0⟩ := sizes w o0 _ rfl
  obtain ⟨s2, h1⟩ := sizes _ o1 _ s1
  obtain ⟨s3, h2⟩ := sizes _ o2 _ s2
  obtain ⟨s4, h3⟩ := sizes _ o3 _ s3
  obtain ⟨s5, h4⟩ := sizes _ o4 _ s4
  obtain ⟨s6, h5⟩ := sizes _ o5 _ s5
  exact ⟨s6, below_alloc (below_alloc (below_alloc (below_alloc (below_alloc (below_alloc (Below.refl _ _) _) _) _) _) _) _, blk_alloc (blk_alloc (blk_alloc (blk_alloc (blk_alloc h0 _) _) _) _) _, blk_alloc (blk_alloc (blk_alloc (blk_alloc h1 _) _) _) _, blk_alloc (blk_alloc (blk_alloc h2 _) _) _, blk_alloc h4 _, h5⟩
set_option maxHeartbeats 8000000 in
set_option maxRecDepth 100000 in
theorem each_calls {σ : Type} (I : σ → World → Prop) (tf : σ → List Int → Int → Option σ) (A : Option Addr) (ck : Nat) (kit : List Int) (low : Int) (tfn : FuncId) (caps : Array Value) (hl0 : -1 ≤ low) (hl1 : low ≤ 2) (hlen : kit.length ≤ 35184372088832)
    (eg : Enters Try.prog tfn) (w : World)
    (hIk : ∀ (s : σ) (W : World), I s W → Kd.C (Kd.int .i64) W A kit.length kit)
    (hIo : ∀ (s : σ) (W W2 : World), I s W → w.heap.size ≤ W.heap.size → Below w.heap.size W W2 → Kept W W2 (mine w.heap.size) → I s W2)
    (htell : ∀ (vs : Value) (s : σ) (W : World) (x : List Int) (sum : Int) (s' : σ), I s W → w.heap.size + 6 ≤ W.heap.size → x.length = kit.length → Kd.R (Kd.int .i64) 3 W w.heap.size (fun k => k = w.heap.size + 3) vs x → tf s x sum = some s' → Calls Try.prog tfn (#[vs, .int .i64 sum] ++ caps) W fun e W' => e = .returned (.tuple #[]) ∧ I s' W' ∧ Kept W W' (fun k => ¬ mine w.heap.size k))
    (s sf : σ) (hi : I s w) (h : eachG tf low kit [] 0 s = some sf) :
    Calls Try.prog 46 #[.slice A kit.length ck, .int .i64 low, .func (.func tfn) #[] caps] w fun e W' => e = .returned (.tuple #[]) ∧ I sf W' := by
  have HF := Aside0.mk (fun (vs : Value) => from_calls I tf A ck kit low tfn caps vs w.heap.size hl0 hl1 (by omega) eg hIk hIo (htell vs) kit 0)
  have HIO := Aside0.mk hIo
  have HI := Aside0.mk hi
  have HH := Aside0.mk h
  have E79 := enters_of (P := Try.prog) Try.func79 (by kernel_rfl) rfl
  have hlz := hlen
  clear hIk hIo htell hi h eg
  have hmk : ∀ W : World, (Instr.makeSlice 22 (.int .i64 kit.length) (.int .i64 kit.length)).run Try.prog W = .ok (.slice (some ⟨W.heap.size, 0, none⟩) kit.length kit.length) (W.alloc (.cells (madeCells (Value.int .i64 0).cells (kit.length * 1)) 3)) := fun W => by
    obtain ⟨i0, hi, hzz⟩ := Option.map_eq_some_iff.1 info3
    simp only [Prod.mk.injEq] at hzz
    obtain ⟨hz0, hz1, hz2⟩ := hzz
    have hr := run_make (P := Try.prog) W 22 3 i0 (.int .i64 0) Try.underlying22 hi hz0 .i64 .i64 (kit.length : Int) (kit.length : Int) (by omega) (by omega) (by rw [hz2]; omega) (by omega)
    rw [hz1, Int.toNat_natCast] at hr
    exact hr
  go_enter Try.func46, Try.ntmps46
  go_wp2_with (((with_reducible refine gate_store (t := 73) (p := 7) rfl ?_); refine Hid.out ?_))
  unfold Hid
  have hr0 := row_new (((w.alloc (.cells #[.slice A kit.length ck] 22)).alloc (.cells #[.int .i64 low] 3)).alloc (.cells #[.func (.func tfn) #[] caps] 57)) w.heap.size kit.length (by simp only [World.size_alloc]; omega) (by omega)
  rw [show (((w.alloc (.cells #[.slice A kit.length ck] 22)).alloc (.cells #[.int .i64 low] 3)).alloc (.cells #[.func (.func tfn) #[] caps] 57)).heap.size = w.heap.size + 3 by simp only [World.size_alloc], Nat.mul_one] at hr0
  have hr1 := Kd.R_alloc (Kd.R_alloc hr0 (.cells #[.slice (some ⟨w.heap.size + 1 + 1 + 1, 0, none⟩) kit.length kit.length] 22)) (.cells #[.nilFunc] 73)
  have HR := Aside0.mk hr1
  clear hr0 hr1
  generalize hW : ((((((w.alloc (.cells #[.slice A kit.length ck] 22)).alloc (.cells #[.int .i64 low] 3)).alloc (.cells #[.func (.func tfn) #[] caps] 57)).alloc (.cells (madeCells #[.int .i64 0] kit.length) 3)).alloc (.cells #[.slice (some ⟨w.heap.size + 1 + 1 + 1, 0, none⟩) kit.length kit.length] 22)).alloc (.cells #[.nilFunc] 73)) = W6
  obtain ⟨z0, z1, z2, z3, z4, z5, z6⟩ := six w W6 _ _ _ _ _ _ hW
  have hW2 : ((((((w.alloc (.cells #[.slice A kit.length ck] 22)).alloc (.cells #[.int .i64 low] 3)).alloc (.cells #[.func (.func tfn) #[] caps] 57)).alloc (.cells (madeCells (Value.int .i64 0).cells kit.length) 3)).alloc (.cells #[.slice (some ⟨w.heap.size + 1 + 1 + 1, 0, none⟩) kit.length kit.length] 22)).alloc (.cells #[.nilFunc] 73)) = W6 := hW
  have HR2 := HR.out
  rw [hW2] at HR2
  have HROW := Aside0.mk HR2
  clear HR HR2 hW hW2 hmk
  have HZ := Aside0.mk (And.intro z0 (And.intro z1 (And.intro z2 (And.intro z3 (And.intro z4 z5)))))
  have k5 : W6.cell? ⟨w.heap.size + 1 + 1 + 1 + 1 + 1, 0, none⟩ = some .nilFunc := (blk_cell z6 0).trans rfl
  have f5 : W6.frozen? ⟨w.heap.size + 1 + 1 + 1 + 1 + 1, 0, none⟩ = false := blk_frozen z6 0
  have Z6 := Aside0.mk z6
  clear z0 z1 z2 z3 z4 z5 z6
  refine store_event (t := 73) (p := 7) (v := ?vo_w9) (w1 := (W6.setCell ⟨w.heap.size + 1 + 1 + 1 + 1 + 1, 0, none⟩ (.func (.func 79) #[] #[.pointer (some ⟨w.heap.size, 0, none⟩), .pointer (some ⟨w.heap.size + 1 + 1, 0, none⟩), .pointer (some ⟨w.heap.size + 1 + 1 + 1 + 1, 0, none⟩), .pointer (some ⟨w.heap.size + 1, 0, none⟩), .pointer (some ⟨w.heap.size + 1 + 1 + 1 + 1 + 1, 0, none⟩)]))) ?hg ?ho ?hn ?hr ?_
  case ho => rfl
  case hg => rfl
  case hn => rfl
  case hr => first | (go_simp; done) | (go_simp; rfl)
  intro w9 hw
  have k9 : w9.cell? ⟨w.heap.size + 1 + 1 + 1 + 1 + 1, 0, none⟩ = some (.func (.func 79) #[] #[.pointer (some ⟨w.heap.size, 0, none⟩), .pointer (some ⟨w.heap.size + 1 + 1, 0, none⟩), .pointer (some ⟨w.heap.size + 1 + 1 + 1 + 1, 0, none⟩), .pointer (some ⟨w.heap.size + 1, 0, none⟩), .pointer (some ⟨w.heap.size + 1 + 1 + 1 + 1 + 1, 0, none⟩)]) := by rw [hw]; exact (blk_cell (blk_set Z6.out 0 _) 0).trans rfl
  obtain ⟨z0, z1, z2, z3, z4, z5⟩ := HZ.out
  have hown : Own A ck kit low (.func (.func tfn) #[] caps) (.slice (some ⟨w.heap.size + 3, 0, none⟩) kit.length kit.length) w.heap.size (List.replicate kit.length 0) w9 :=
    { kitB := by rw [hw]; exact (blk_cell (blk_far z2 (show w.heap.size + 0 ≠ w.heap.size + 1 + 1 + 1 + 1 + 1 by omega) _) 0).trans rfl
      lowB := by rw [hw]; exact (blk_cell (blk_far z3 (show w.heap.size + 1 ≠ w.heap.size + 1 + 1 + 1 + 1 + 1 by omega) _) 0).trans rfl
      tellB := by rw [hw]; exact (blk_cell (blk_far z4 (show w.heap.size + 2 ≠ w.heap.size + 1 + 1 + 1 + 1 + 1 by omega) _) 0).trans rfl
      signsB := by rw [hw]; exact (blk_cell (blk_far z5 (show w.heap.size + 4 ≠ w.heap.size + 1 + 1 + 1 + 1 + 1 by omega) _) 0).trans rfl
      fromB := k9
      row := by rw [hw]; exact Kd.R_far HROW.out (fun k hk => by subst hk; show w.heap.size + 3 ≠ w.heap.size + 1 + 1 + 1 + 1 + 1; omega) _
      size := by rw [hw]; simp only [World.setCell]; simp; omega }
  have hi9 : I s w9 := HIO.out s w w9 HI.out (Nat.le_refl _) (by rw [hw]; exact z1.setCell (p := ⟨w.heap.size + 1 + 1 + 1 + 1 + 1, 0, none⟩) (show w.heap.size ≤ w.heap.size + 1 + 1 + 1 + 1 + 1 by omega) _) (by rw [hw]; exact (Kept.of_below z1 (mine w.heap.size)).setCell (p := ⟨w.heap.size + 1 + 1 + 1 + 1 + 1, 0, none⟩) (.inr (show w.heap.size ≤ w.heap.size + 1 + 1 + 1 + 1 + 1 by omega)) _)
  have HC := Aside0.mk (HF.out _ (List.replicate kit.length 0) 0 s sf w9 rfl (Nat.zero_le _) hown (List.length_replicate) hi9 HH.out)
  clear hw hown hi9 z0 z1 z2 z3 z4 z5 HZ Z6 k5 f5 HROW HF HIO HI HH
  go_wp2_with (((with_reducible refine gate 79 ?_); refine (calls_of_args ?_ HC.out).mono ?_))
  · rfl
  · rintro e w' ⟨rfl, cur', ho, hc, ht, hi⟩
    have HI := Aside0.mk hi
    clear ho hc ht hi
    try go_wp2
    go_end0
    exact ⟨rfl, HI.out⟩
end impl_eachSigns

-- NOT PRINTED: function 86 (impl_weighed_1)

-- NOT PRINTED: function 87 (slices_Sort_int_int)

-- NOT PRINTED: function 88 (slices_Compact_int_int)

/-! ### impl_weighed: function 75 -/
/-- What is known at each round. -/
structure impl_weighed.Inv (w : World) (A : Option Addr) (kit : List Int) (bb B : Nat) (out : List Int) (W : World) : Prop where
  bel : Below w.heap.size w W
  row : ∃ v, W.heap[bb]? = some (.cells #[v] 22 (0, 0)) ∧ Kd.R (Kd.int .i64) 3 W w.heap.size (fun k => k ≠ bb ∧ ¬ impl_eachSigns.mine B k) v out
  kit : Kd.C (Kd.int .i64) w A kit.length kit
theorem impl_weighed.Inv.step {w : World} {A : Option Addr} {kit : List Int} {bb B : Nat} {out : List Int} {W W2 : World} (h : impl_weighed.Inv w A kit bb B out W) (hwb : w.heap.size ≤ B) (hbb : bb < B) (hb : Below B W W2) (hk : Kept W W2 (impl_eachSigns.mine B)) : impl_weighed.Inv w A kit bb B out W2 := by
  obtain ⟨v, hv, hr⟩ := h.row
  exact ⟨h.bel.trans ⟨hb.os, hb.tape, hb.output, hb.size, fun k hk => hb.block k (by omega)⟩, ⟨v, blk_kept hv hk (by simp only [impl_eachSigns.mine]; omega), Kd.R_kept hr hk (fun k hk => hk.2)⟩, h.kit⟩
/-- One sum more. -/
def impl_weighed.more (out : List Int) (sum : Int) : Option (List Int) := if sum > 0 then (if out.length < 17592186044416 then some (out ++ [sum]) else none) else some out
set_option maxHeartbeats 8000000 in
set_option maxRecDepth 100000 in
theorem impl_weighed.tell (w : World) (A : Option Addr) (kit : List Int) (bb B : Nat) (hwb : w.heap.size ≤ bb) (hbb : bb < B)
    (out out2 : List Int) (W : World) (vs : Value) (sum : Int) (hi : impl_weighed.Inv w A kit bb B out W) (hB : B + 6 ≤ W.heap.size) (hm : impl_weighed.more out sum = some out2) :
    Calls Try.prog 86 #[vs, .int .i64 sum, .pointer (some ⟨bb, 0, none⟩)] W fun e W' => e = .returned (.tuple #[]) ∧ impl_weighed.Inv w A kit bb B out2 W' ∧ Kept W W' (fun k => ¬ impl_eachSigns.mine B k) := by
  unfold impl_weighed.more at hm
  by_cases c0 : sum > 0
  · rw [if_pos c0] at hm
    have c0b : decide (sum > 0) = true := decide_eq_true c0
    by_cases hlt : out.length < 17592186044416
    · rw [if_pos hlt] at hm
      obtain rfl := Option.some.inj hm
      clear hm
      obtain ⟨v, hv, hbr⟩ := hi.row
      obtain ⟨Ab, cb, eb⟩ := Kd.R_slice hbr
      subst eb
      have hbc : W.cell? ⟨bb, 0, none⟩ = some (.slice Ab out.length cb) := (blk_cell hv 0).trans rfl
      have HI := Aside0.mk hi
      have HBR := Aside0.mk hbr
      have HV := Aside0.mk hv
      have HLT := Aside0.mk hlt
      have HB6 := Aside0.mk hB
      clear hi hbr hv hlt hB c0
      go_enter Try.func86, Try.ntmps86
      go_wp2_with (((with_reducible refine gate_builtin (b := .append) (xs := #[.tmp 7, .tmp 9]) rfl ?_); refine Hid.out ?_))
      unfold Hid
      refine Kd.R_append (Kd.int .i64) (w0 := w) w.heap.size rfl (.tmp 7) (.tmp 9) 22 3 (.int .i64 0) 8 rfl Try.underlying22 info3 rfl (by decide) (by omega) (.slice Ab out.length cb) out sum [.int .i64 sum] (fun k => k ≠ bb ∧ ¬ impl_eachSigns.mine B k) (fun _ => False) rfl rfl ?aP (fun _ hk => hk.elim) ?aF ?aO ?aB ?aS ?aL ?_
      case aP => exact rfl
      case aB => exact (by repeat (first | (with_reducible first | exact HI.out.bel | apply below_alloc | apply pw_below_drewN | apply below_drew1) | exact HI.out.bel))
      case aF =>
        intro k_ hk
        have h6 := HB6.out
        try rw [World.size_alloc] at hk
        exact ⟨by omega, by simp only [impl_eachSigns.mine]; omega⟩
      case aO => exact (by (with_reducible repeat (first | apply Kd.R_alloc | apply Kd.R_drewN | apply Kd.R_drew)); exact HBR.out)
      case aS => exact (below_size (by repeat (first | (with_reducible first | exact HI.out.bel | apply below_alloc | apply pw_below_drewN | apply below_drew1) | exact HI.out.bel)))
      case aL =>
        have := HLT.out
        omega
      intro v8 w8 ho hb hg hat
      obtain ⟨A8, c8, e8⟩ := Kd.R_slice ho
      subst e8
      have hv8 : w8.heap[bb]? = some (.cells #[.slice Ab out.length cb] 22 (0, 0)) := blk_grown HV.out hg (fun e_ => (HBR.out.1 bb e_.symm).1 rfl)
      have hk8 : Kept W w8 (fun k => ¬ impl_eachSigns.mine B k) := Kept.of_grown hg (Kept.refl W _) (fun k e_ => .inl (HBR.out.1 k e_).2)
      have k8 : w8.cell? ⟨bb, 0, none⟩ = some (.slice Ab out.length cb) := (blk_cell hv8 0).trans rfl
      have f8 : w8.frozen? ⟨bb, 0, none⟩ = false := blk_frozen hv8 0
      have HO := Aside0.mk ho
      have HBB := Aside0.mk hb
      have HK8 := Aside0.mk hk8
      have HV8 := Aside0.mk hv8
      clear ho hb hg hat hk8 hv8
      go_wp2_with (((with_reducible refine gate_store (t := 22) (p := 2) rfl ?_); refine store_event (t := 22) (p := 2) (v := ?vo_w9) (w1 := (w8.setCell ⟨bb, 0, none⟩ (.slice A8 (out ++ [sum]).length c8))) ?hg ?ho ?hn ?hr ?_; (case ho => rfl); (case hg => rfl); (case hn => rfl); (case hr => first | (go_simp; done) | (go_simp; rfl)); intro w9 hw9; have HW9 := Aside0.mk hw9; clear hw9))
      try go_wp2
      go_end0
      have hw9 := HW9.out
      refine ⟨rfl, ⟨?_, ⟨.slice A8 (out ++ [sum]).length c8, ?_, ?_⟩, HI.out.kit⟩, ?_⟩
      · rw [hw9]
        exact HBB.out.setCell (p := ⟨bb, 0, none⟩) hwb _
      · rw [hw9]
        exact blk_put HV8.out 0 _ rfl
      · rw [hw9]
        exact Kd.R_far HO.out (p := ⟨bb, 0, none⟩) (fun k hk => hk.1) _
      · rw [hw9]
        exact HK8.out.setCell (p := ⟨bb, 0, none⟩) (.inl (by simp only [impl_eachSigns.mine]; omega)) _
    · rw [if_neg hlt] at hm
      cases hm
  · rw [if_neg c0] at hm
    obtain rfl := Option.some.inj hm
    have c0b : decide (sum > 0) = false := decide_eq_false c0
    have HI := Aside0.mk hi
    clear hi hm
    go_enter Try.func86, Try.ntmps86
    go_wp2
    go_end0
    exact ⟨rfl, HI.out, Kept.refl _ _⟩
theorem impl_weighed.put_old (W : World) (q g : Nat) (d : Array Int) (os : Array Obj) (k : Nat) (hk : k < W.heap.size) (hne : k ≠ g) : (Sort.grow (Sort.putRow (Value.int .i64) (Sort.ahead W q) g 0 d) os).heap[k]? = W.heap[k]? := by
  rw [Sort.heap_grow_old _ _ (by simp [Sort.putRow, Sort.mapBlock, Sort.ahead]; exact hk)]
  show (W.heap.modify g _)[k]? = _
  rw [Array.getElem?_modify, if_neg (Ne.symm hne)]
theorem impl_weighed.put_size (W : World) (q g : Nat) (d : Array Int) (os : Array Obj) : W.heap.size ≤ (Sort.grow (Sort.putRow (Value.int .i64) (Sort.ahead W q) g 0 d) os).heap.size := by
  simp [Sort.grow, Sort.putRow, Sort.mapBlock, Sort.ahead]
theorem impl_weighed.put_at (W : World) (q g : Nat) (d : Array Int) (os : Array Obj) (cur : Array Value) (e : TypeId) (h : W.heap[g]? = some (.cells cur e (0, 0))) : (Sort.grow (Sort.putRow (Value.int .i64) (Sort.ahead W q) g 0 d) os).heap[g]? = some (.cells (Sort.putCells (Value.int .i64) 0 d cur) e (0, 0)) := by
  have hg : g < W.heap.size := blk_lt h
  rw [Sort.heap_grow_old _ _ (by simp [Sort.putRow, Sort.mapBlock, Sort.ahead]; exact hg)]
  show (W.heap.modify g _)[g]? = _
  rw [Array.getElem?_modify, if_pos rfl, h]
  rfl
theorem impl_weighed.put_kept (W : World) (q g : Nat) (d : Array Int) (os : Array Obj) : Kept W (Sort.grow (Sort.putRow (Value.int .i64) (Sort.ahead W q) g 0 d) os) (fun k => k = g) := ⟨impl_weighed.put_size W q g d os, fun k hk hne => impl_weighed.put_old W q g d os k hk hne⟩
theorem impl_weighed.put_below (B : Nat) (W : World) (q g : Nat) (d : Array Int) (os : Array Obj) (hB : B ≤ g) (hg : g < W.heap.size) : Below B W (Sort.grow (Sort.putRow (Value.int .i64) (Sort.ahead W q) g 0 d) os) := ⟨rfl, rfl, rfl, impl_weighed.put_size W q g d os, fun k hk => impl_weighed.put_old W q g d os k (by omega) (by omega)⟩
theorem impl_weighed.put_row {W : World} {base g n cap : Nat} {ok : Nat → Prop} {xs : List Int} (h : Kd.R (Kd.int .i64) 3 W base ok (.slice (some ⟨g, 0, none⟩) n cap) xs) (q m : Nat) (ys : List Int) (os : Array Obj) (hy : ys.length = xs.length) (hm : m ≤ ys.length) :
    Kd.R (Kd.int .i64) 3 (Sort.grow (Sort.putRow (Value.int .i64) (Sort.ahead W q) g 0 ys.toArray) os) base ok (.slice (some ⟨g, 0, none⟩) (ys.take m).length cap) (ys.take m) := by
  refine Kd.R_of_own ?_ h.1
  have ho := Kd.own_of_R h
  obtain ⟨h1, h2⟩ := ho
  rcases h2 with ⟨he, _⟩ | ⟨g2, c2, cur, he, hb, hh, hnc, hcm, hcs, ht⟩
  · cases he
  · injection he with ha hn hc
    injection ha with ha
    injection ha with hg2
    subst hg2
    subst hc
    have hl : (ys.take m).length = m := by rw [List.length_take]; omega
    refine ⟨by simp [encs], .inr ⟨g, cap, Sort.putCells (Value.int .i64) 0 ys.toArray cur, rfl, hb, impl_weighed.put_at W q g ys.toArray os cur 3 hh, by omega, hcm, by rw [← hcs]; simp [Sort.putCells], ?_⟩⟩
    apply List.ext_getElem?
    intro k
    rw [hl, Nat.mul_one]
    by_cases hk : k < m
    · have hkc : k < cur.size := by rw [hcs]; omega
      rw [List.getElem?_take_of_lt hk, Array.getElem?_toList, Sort.putCells, Array.getElem?_mapIdx, Array.getElem?_eq_getElem hkc, Option.map_some, if_pos ⟨Nat.zero_le _, by simp; omega⟩]
      simp only [encs, List.getElem?_map, List.getElem?_take_of_lt hk, Nat.sub_zero]
      have hk2 : k < ys.length := by omega
      rw [List.getElem?_eq_getElem hk2, getElem!_pos _ _ (by simpa using hk2)]
      simp
    · rw [List.getElem?_eq_none (by rw [List.length_take]; omega), List.getElem?_eq_none (by simp [encs]; omega)]
theorem impl_weighed.holds {W : World} {base g n cap : Nat} {ok : Nat → Prop} {xs : List Int} (h : Kd.R (Kd.int .i64) 3 W base ok (.slice (some ⟨g, 0, none⟩) n cap) xs) : Sort.Holds (Value.int .i64) W g 0 xs.toArray := by
  intro j hj
  obtain ⟨rfl, _⟩ := Kd.R_reads' h
  have hj2 : j < xs.length := by simpa using hj
  obtain ⟨h1, h2⟩ := Kd.R_celln 0 h (j : Int) (by omega) (by omega)
  rw [Int.toNat_natCast] at h1 h2
  rw [Nat.zero_add]
  refine ⟨?_, h2⟩
  rw [h1]
  have : rdOf (0 : Int) xs (j : Int) = xs.toArray[j]! := by
    unfold rdOf
    rw [Int.toNat_natCast, List.getD_eq_getElem?_getD, List.getElem?_eq_getElem hj2, getElem!_pos _ _ (by simpa using hj2)]
    simp
  rw [this]
theorem impl_weighed.compact_le (ys : List Int) : (Lib.compact ys).length ≤ ys.length := by
  unfold Lib.compact Lib.compactUpTo
  rw [List.length_map]
  refine Nat.le_trans (List.length_filter_le _ _) ?_
  rw [List.length_range]
  exact Nat.le_refl _
def impl_weighed.f (l0 : List Int) (a1 : Int) : Option (List Int) := if -1 ≤ a1 ∧ a1 ≤ 2 ∧ l0.length < 35184372088832 then ((impl_eachSigns.eachG (fun out _ sum => impl_weighed.more out sum) a1 l0 [] 0 []).bind fun out => if 0 < out.length ∧ out.length < 4611686018427387904 then some (Lib.compact (out.mergeSort fun x y => decide (x ≤ y))) else none) else none
theorem impl_weighed.two (w W : World) (o0 o1 : Obj) (e : (w.alloc o0).alloc o1 = W) : W.heap.size = w.heap.size + 2 ∧ Below w.heap.size w W ∧ W.heap[w.heap.size]? = some o0 ∧ W.heap[w.heap.size + 1]? = some o1 := by
  subst e
  obtain ⟨s1, h0⟩ := impl_eachSigns.sizes w o0 _ rfl
  obtain ⟨s2, h1⟩ := impl_eachSigns.sizes _ o1 _ s1
  exact ⟨s2, below_alloc (below_alloc (Below.refl _ _) _) _, blk_alloc h0 _, h1⟩
theorem impl_weighed.empty (w W : World) (o1 : Obj) (e : (w.alloc (.cells #[] 3)).alloc o1 = W) : Kd.R (Kd.int .i64) 3 W w.heap.size (fun k => k = w.heap.size) (.slice (some ⟨w.heap.size, 0, none⟩) 0 0) ([] : List Int) := by
  subst e
  have h := impl_eachSigns.row_new w w.heap.size 0 (Nat.le_refl _) (by omega)
  rw [show madeCells (Value.int .i64 0).cells (0 * 1) = #[] from by simp [madeCells]] at h
  exact Kd.R_alloc h _
set_option maxHeartbeats 8000000 in
set_option maxRecDepth 100000 in
theorem impl_weighed.calls (A0 : Option Addr) (c0 : Nat) (l0 : List Int) (a1 : Int) (r : List Int) (w : World) (hr0 : Kd.C (Kd.int .i64) w A0 l0.length l0) (hc0 : l0.length ≤ c0) (h : impl_weighed.f l0 a1 = some r) :
    Calls Try.prog 75 #[.slice A0 l0.length c0, .int .i64 a1] w fun e w' => ∃ v0_ : Value, e = .returned (v0_) ∧ Kd.R (Kd.int .i64) 3 w' w.heap.size (fun _ => True) v0_ r ∧ Below w.heap.size w w' := by
  have HR0 := Aside0.mk hr0
  clear hr0 hc0
  unfold impl_weighed.f at h
  split at h
  · rename_i hl
    obtain ⟨out, hg, h⟩ := Option.bind_eq_some_iff.mp h
    split at h
    · rename_i ho
      obtain rfl := Option.some.inj h
      clear h
      have HG := Aside0.mk hg
      have HL := Aside0.mk hl
      have HO := Aside0.mk ho
      clear hg hl ho
      go_enter Try.func75, Try.ntmps75
      go_wp2_with (go_at_call 46; refine Hid.out ?_)
      unfold Hid
      generalize hW : (w.alloc (.cells #[] 3)).alloc (.cells #[.slice (some ⟨w.heap.size, 0, none⟩) 0 0] 22) = W
      obtain ⟨z0, z1, z2, z3⟩ := impl_weighed.two w W _ _ hW
      have hrow := impl_weighed.empty w W _ hW
      clear hW
      have hinv : impl_weighed.Inv w A0 l0 (w.heap.size + 1) W.heap.size [] W :=
        ⟨z1, ⟨_, z3, Kd.R_mono hrow (fun k e => by subst e; rw [z0]; simp only [impl_eachSigns.mine]; omega)⟩, HR0.out⟩
      have HE := Aside0.mk (impl_eachSigns.each_calls (impl_weighed.Inv w A0 l0 (w.heap.size + 1) W.heap.size) (fun out _ sum => impl_weighed.more out sum) A0 c0 l0 a1 86 #[.pointer (some ⟨w.heap.size + 1, 0, none⟩)] HL.out.1 HL.out.2.1 (by have := HL.out.2.2; omega) (enters_of (P := Try.prog) Try.func86 (by kernel_rfl) rfl) W
        (fun s W1 hi => Kd.Heap.C (Kd.heap_int .i64) (fun k hk => hi.bel.block k hk) hi.kit)
        (fun s W1 W2 hi hB hb hk => hi.step (by omega) (by omega) hb hk)
        (fun vs s W1 x sum s' hi hB hx hr hs => impl_weighed.tell w A0 l0 (w.heap.size + 1) W.heap.size (by omega) (by omega) s s' W1 vs sum hi hB hs)
        [] out hinv HG.out)
      have hBW : w.heap.size + 1 < W.heap.size := by omega
      have HBW := Aside0.mk hBW
      clear hinv hrow z0 z1 z2 z3 hBW
      refine HE.out.mono ?_
      rintro e w1 ⟨rfl, hi⟩
      obtain ⟨v, hv, hr⟩ := hi.row
      obtain ⟨g, c2, e2, hgb, hgl, cl, hgc⟩ := Kd.R_form hr HO.out.1
      have hgok : g ≠ w.heap.size + 1 := (hr.1 g (by rw [e2]; rfl)).1
      subst e2
      have hH := impl_weighed.holds hr
      have hrd := (Kd.R_reads' hr).2.1
      have HS := Aside0.mk (fun n => YtjhoejdjhboadaaSh.slices_Sort_int g 0 c2 out (w1.drewN n) hH hgl HO.out.2)
      generalize hys : (out.mergeSort fun x y => decide (x ≤ y)) = ys at HS ⊢
      have hyl : ys.length = out.length := by rw [← hys, List.length_mergeSort]
      have HYL := Aside0.mk hyl
      have HYS := Aside0.mk hys
      have k2 : w1.cell? ⟨w.heap.size + 1, 0, none⟩ = some (.slice (some ⟨g, 0, none⟩) out.length c2) := (blk_cell hv 0).trans rfl
      have HR := Aside0.mk hr
      have HB1 := Aside0.mk hi.bel
      have HV := Aside0.mk hv
      have HX := Aside0.mk (And.intro hgb (And.intro hgl (And.intro hgok hrd)))
      clear hi hr hv HE hH hgb hgl cl hgc hgok hrd hys hyl
      go_wp2_with (go_at_call 87; refine (HS.out 0).mono ?_; rintro e w2 ⟨rfl, q, os, hw2⟩; have HW2 := Aside0.mk hw2; clear hw2; refine Hid.out ?_)
      unfold Hid
      have hk := impl_weighed.put_kept w1 q g ys.toArray os
      have hbel := impl_weighed.put_below w.heap.size w1 q g ys.toArray os HX.out.1 HX.out.2.1
      have hrow := impl_weighed.put_row HR.out q ys.length ys os HYL.out (Nat.le_refl _)
      have hw2 : w2 = Sort.grow (Sort.putRow (Value.int .i64) (Sort.ahead w1 q) g 0 ys.toArray) os := HW2.out
      rw [← hw2] at hk hbel hrow
      clear hw2 HW2
      rw [List.take_length, HYL.out] at hrow
      have k3 : w2.cell? ⟨w.heap.size + 1, 0, none⟩ = some (.slice (some ⟨g, 0, none⟩) out.length c2) := cell_kept k2 hk (fun e => HX.out.2.2.1 e.symm)
      have HR2 := Aside0.mk hrow
      have HB2 := Aside0.mk (HB1.out.trans hbel)
      have hH := impl_weighed.holds hrow
      have HC := Aside0.mk (fun n => YtjhoejdjhboadaaSh.slices_Compact_int g 0 c2 ys (w2.drewN n) hH (by have := HO.out.2; have := HYL.out; omega) (by rw [HYL.out]; exact HX.out.2.2.2))
      have hgs : g < w2.heap.size := Nat.lt_of_lt_of_le HX.out.2.1 hk.1
      have HGS := Aside0.mk hgs
      rw [HYL.out] at HC
      clear k2 hk hbel hrow hH hgs HS
      go_wp2_with (go_at_call 88; refine (HC.out 0).mono ?_; rintro e w3 ⟨rfl, q3, hw3⟩; have HW3 := Aside0.mk hw3; clear hw3; refine Hid.out ?_)
      unfold Hid
      have hw3 := HW3.out
      have hcl : (Lib.compact ys).length ≤ ys.length := impl_weighed.compact_le ys
      have hrow := impl_weighed.put_row HR2.out q3 (Lib.compact ys).length (Lib.compact ys ++ List.replicate (ys.length - (Lib.compact ys).length) 0) #[] (by rw [List.length_append, List.length_replicate]; omega) (by rw [List.length_append]; omega)
      rw [List.take_left, Sort.grow_empty] at hrow
      have hbel := impl_weighed.put_below w.heap.size w2 q3 g (Lib.compact ys ++ List.replicate (ys.length - (Lib.compact ys).length) 0).toArray #[] HX.out.1 HGS.out
      rw [Sort.grow_empty] at hbel
      have e3 : w3 = Sort.putRow (Value.int .i64) (Sort.ahead w2 q3) g 0 (Lib.compact ys ++ List.replicate (ys.length - (Lib.compact ys).length) 0).toArray := by
        rw [HYL.out]
        exact hw3
      rw [← e3] at hrow hbel
      rw [← HYS.out] at hrow
      have HR3 := Aside0.mk hrow
      have HB3 := Aside0.mk (HB2.out.trans hbel)
      clear hrow hbel e3 hw3 HW3 hcl k3 HC
      rw [← HYS.out]
      go_wp2
      go_ret
      exact ⟨_, rfl, by (with_reducible repeat (first | apply Kd.R_alloc | apply Kd.R_drewN | apply Kd.R_drew)); exact Kd.R_mono HR3.out (fun _ _ => trivial), by repeat (first | (with_reducible first | exact HB3.out | apply below_alloc | apply pw_below_drewN | apply below_drew1) | exact HB3.out)⟩
    · cases h
  · cases h

/-! ### impl_WeighTwo: function 41 -/
def impl_WeighTwo.f (k : Nat) (l0 : List Int) : Option (List Int × Bool) := (impl_IsKit.f k l0).bind fun t170 => (if t170 = true then ((impl_weighed.f l0 (-1)).bind fun t171 => (some (t171, true))) else (some (([] : List Int), false)))
theorem impl_WeighTwo.mono : ∀ a0 k, LeO (impl_WeighTwo.f k a0) (impl_WeighTwo.f (k + 1) a0) := by
  intro a0 k
  unfold impl_WeighTwo.f
  repeat' first
      | (with_reducible exact impl_IsKit.mono _ _)
      | (with_reducible exact LeO.refl _)
      | (with_reducible exact LeO.none _)
      | (with_reducible refine LeO.ite ?_ ?_)
      | (with_reducible refine LeO.bind ?_ (fun _ => ?_))
      | exact impl_IsKit.mono _ _
      | exact LeO.none _
      | refine LeO.ite ?_ ?_
      | refine LeO.bind ?_ (fun _ => ?_)
set_option maxHeartbeats 8000000 in
set_option maxRecDepth 100000 in
theorem impl_WeighTwo.calls (k : Nat) (A0 : Option Addr) (c0 : Nat) (l0 : List Int) (r1 : List Int) (r2 : Bool) (w : World) (hr0 : Kd.C (Kd.int .i64) w A0 l0.length l0) (hc0 : l0.length ≤ c0) (h : impl_WeighTwo.f k l0 = some (r1, r2)) :
    Calls Try.prog 41 #[.slice A0 l0.length c0] w fun e w' => ∃ v0_ : Value, e = .returned (.tuple #[v0_, .bool r2]) ∧ Kd.R (Kd.int .i64) 3 w' w.heap.size (fun _ => True) v0_ r1 ∧ Below w.heap.size w w' := by
  have HR0 := Aside0.mk hr0
  have HC0 := Aside0.mk hc0
  clear hr0 hc0
  have HB := Aside0.mk (Below.refl w.heap.size w)
  have H : ((impl_IsKit.f k l0).bind fun t170 => (if t170 = true then ((impl_weighed.f l0 (-1)).bind fun t171 => (some (t171, true))) else (some (([] : List Int), false)))) = some (r1, r2) := h
  clear h
  replace H := Option.bind_eq_some_iff.mp H
  obtain ⟨t170, A20, H⟩ := H
  replace H : (if t170 = true then ((impl_weighed.f l0 (-1)).bind fun t171 => (some (t171, true))) else (some (([] : List Int), false))) = some (r1, r2) := H
  have A2 := Aside0.mk A20
  clear A20
  by_cases c3 : t170 = true
  · subst c3
    have H1 : ((impl_weighed.f l0 (-1)).bind fun t171 => (some (t171, true))) = some (r1, r2) := by rw [if_pos rfl] at H; exact H
    clear H
    have H := H1
    clear H1
    replace H := Option.bind_eq_some_iff.mp H
    obtain ⟨t171, A40, H⟩ := H
    replace H : (some (t171, true)) = some (r1, r2) := H
    have A4 := Aside0.mk A40
    clear A40
    simp only [Option.some.injEq, Prod.mk.injEq] at H
    obtain ⟨rfl, rfl⟩ := H
    go_enter Try.func41, Try.ntmps41
    go_wp2_with (first | ((with_reducible refine gate_callee (f := 45) rfl ?_); refine goesL_ (some 5) rfl rfl Try.func45 (by kernel_rfl) rfl #[.slice A0 l0.length c0] rfl (by (try simp only [List.map_toArray, List.map_cons, List.map_nil]); first | done | rfl | (simp only [List.length_drop, List.length_take]; rfl)) ?_; (with_reducible refine (impl_IsKit.calls k _ _ l0 true _ ?side1 ?side2 A2.out).mono ?_); (case side1 => repeat (first | exact HR0.out | (with_reducible refine Kd.C_alloc ?_ _) | (with_reducible refine Kd.C_drewN ?_ _) | (with_reducible refine Kd.C_drew ?_))); (case side2 => exact HC0.out); rintro e w' ⟨rfl, ⟨nd, rfl⟩⟩; refine ⟨_, rfl, ?_⟩) | ((with_reducible refine gate_callee (f := 75) rfl ?_); refine goesL_ (some 8) rfl rfl Try.func75 (by kernel_rfl) rfl #[.slice A0 l0.length c0, .int .i64 (-1)] rfl (by (try simp only [List.map_toArray, List.map_cons, List.map_nil]); first | done | rfl | (simp only [List.length_drop, List.length_take]; rfl)) ?_; (with_reducible refine (impl_weighed.calls _ _ l0 (-1) t171 _ ?side1 ?side2 A4.out).mono ?_); (case side1 => repeat (first | exact HR0.out | (with_reducible refine Kd.C_alloc ?_ _) | (with_reducible refine Kd.C_drewN ?_ _) | (with_reducible refine Kd.C_drew ?_))); (case side2 => exact HC0.out); rintro e w5 ⟨v172, rfl, ho0, hb⟩; refine ⟨_, rfl, ?_⟩; have n0_ := Aside0.mk (Kd.R_lower ho0 (below_size (by repeat (first | (with_reducible first | exact HB.out | apply below_alloc | apply pw_below_drewN | apply below_drew1) | exact HB.out)))); have n1_ := Aside0.mk (below_step (by repeat (first | (with_reducible first | exact HB.out | apply below_alloc | apply pw_below_drewN | apply below_drew1) | exact HB.out)) hb); clear HB; have HO173 := n0_; have HB := n1_; clear n0_ n1_; (try clear hb); (try clear hb2); (try clear hk); (try clear hi); (try clear ho0)))
    go_ret2
    exact ⟨_, by first | rfl | (simp [errW_none, errW_some] <;> rfl) | (simp [*, errW_none, errW_some] <;> rfl), by (with_reducible repeat (first | apply Kd.R_alloc | apply Kd.R_drewN | apply Kd.R_drew)); exact HO173.out, by repeat (first | (with_reducible first | exact HB.out | apply below_alloc | apply pw_below_drewN | apply below_drew1) | exact HB.out)⟩
  · replace c3 := Bool.eq_false_iff.mpr c3
    subst c3
    have H1 : (some (([] : List Int), false)) = some (r1, r2) := by rw [if_neg (show ¬ (false = true) by decide)] at H; exact H
    clear H
    have H := H1
    clear H1
    simp only [Option.some.injEq, Prod.mk.injEq] at H
    obtain ⟨rfl, rfl⟩ := H
    go_enter Try.func41, Try.ntmps41
    go_wp2_with (first | ((with_reducible refine gate_callee (f := 45) rfl ?_); refine goesL_ (some 5) rfl rfl Try.func45 (by kernel_rfl) rfl #[.slice A0 l0.length c0] rfl (by (try simp only [List.map_toArray, List.map_cons, List.map_nil]); first | done | rfl | (simp only [List.length_drop, List.length_take]; rfl)) ?_; (with_reducible refine (impl_IsKit.calls k _ _ l0 false _ ?side1 ?side2 A2.out).mono ?_); (case side1 => repeat (first | exact HR0.out | (with_reducible refine Kd.C_alloc ?_ _) | (with_reducible refine Kd.C_drewN ?_ _) | (with_reducible refine Kd.C_drew ?_))); (case side2 => exact HC0.out); rintro e w' ⟨rfl, ⟨nd, rfl⟩⟩; refine ⟨_, rfl, ?_⟩))
    go_ret2
    exact ⟨_, by first | rfl | (simp [errW_none, errW_some] <;> rfl) | (simp [*, errW_none, errW_some] <;> rfl), by first | exact Kd.R_nil _ _ _ _ _ | exact Kd.N_nil _ _ _ _ _ | exact Kd.V_nil _ _ _ _ _ | exact Kd.Q_nil _ _ _ _ _ | exact Kd.S_nil _ _ _ _ _, by repeat (first | (with_reducible first | exact HB.out | apply below_alloc | apply pw_below_drewN | apply below_drew1) | exact HB.out)⟩

end Go.Proofs.Ytjhoejdjhboadaa.PFnExactWeighTwo
