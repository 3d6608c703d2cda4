-- Made by wip/pr.py of this repo over the kit's print (some contracts by hand).
import Derived.Test.YtgnmomdgfamhnaaSq
import Derived.Test.YtgnmomdgfamhnaaPFnCoinsx0
import Derived.Test.YtgnmomdgfamhnaaPFnCoinsx1
import Derived.Test.YtgnmomdgfamhnaaPFnCoinsx10
import Derived.Test.YtgnmomdgfamhnaaPFnCoinsx11
namespace Go.Proofs.Ytgnmomdgfamhnaa.PFnCoins
open Go.RowKit Go.Proofs.YtgnmomdgfamhnaaW.PrintWords Go.Proofs.YtgnmomdgfamhnaaW.PrintLast Go.Proofs.YtgnmomdgfamhnaaW.PrintMore
attribute [local go_sem] max2_int min2_int max_two min_two max_three min_three max_four min_four   -- for this text's walks alone
set_option linter.unusedVariables false
set_option linter.unusedSimpArgs false

/-! ### impl_HeavyPlan: function 21 -/
/-- The first sign that is not 0 (0 if there is none). -/
def impl_HeavyPlan.lead : List Int → Int
  | [] => 0
  | y :: l => if y = 0 then impl_HeavyPlan.lead l else y
theorem impl_HeavyPlan.lead_at : ∀ (l : List Int) (k : Nat), k < l.length → (∀ j, j < k → l.getD j 0 = 0) → l.getD k 0 ≠ 0 → impl_HeavyPlan.lead l = l.getD k 0
  | [], k, h, _, _ => absurd h (Nat.not_lt_zero _)
  | y :: l, 0, _, _, h => by
    have hy : ¬ y = 0 := h
    rw [impl_HeavyPlan.lead, if_neg hy]
    rfl
  | y :: l, k + 1, h, h1, h2 => by
    have hy : y = 0 := h1 0 (Nat.succ_pos k)
    rw [impl_HeavyPlan.lead, if_pos hy]
    exact impl_HeavyPlan.lead_at l k (by simpa using h) (fun j hj => h1 (j + 1) (by omega)) h2
theorem impl_HeavyPlan.lead_none : ∀ l : List Int, (∀ j, j < l.length → l.getD j 0 = 0) → impl_HeavyPlan.lead l = 0
  | [], _ => rfl
  | y :: l, h => by
    have hy : y = 0 := h 0 (by simp)
    rw [impl_HeavyPlan.lead, if_pos hy]
    exact impl_HeavyPlan.lead_none l (fun j hj => h (j + 1) (by simpa using hj))
/-- What IndexFunc tells. -/
def impl_HeavyPlan.Found (l0 : List Int) (w : World) (e : Ending) (w' : World) : Prop := ∃ r : Int, e = .returned (.int .i64 r) ∧ ((r = -1 ∧ impl_HeavyPlan.lead l0 = 0) ∨ (0 ≤ r ∧ r < (l0.length : Int) ∧ rd l0 r = impl_HeavyPlan.lead l0 ∧ impl_HeavyPlan.lead l0 ≠ 0)) ∧ Below w.heap.size w w'
set_option maxHeartbeats 8000000 in
set_option maxRecDepth 100000 in
theorem impl_HeavyPlan.index (A0 : Option Addr) (c0 : Nat) (l0 : List Int) (w : World) (hr0 : Kd.C (Kd.int .i64) w A0 l0.length l0) (hb0 : l0.length ≤ 9223372036854775806) :
    Calls Try.prog 80 #[.slice A0 l0.length c0, .func (.func 81) #[] #[]] w (impl_HeavyPlan.Found l0 w) := by
  have HR0 := Aside0.mk hr0
  clear hr0
  have eg := enters_of (P := Try.prog) Try.func81 (by kernel_rfl) rfl
  have hcl := fun (W : World) (x : Int) => impl_HeavyPlan_1_1.calls x _ W rfl
  go_enter Try.func80, Try.ntmps80
  go_wp2
  go_loopg [5, 8] l0.length (fun gg _ s8 wr => ∃ kk : Nat, kk ≤ l0.length ∧ l0.length - kk ≤ gg ∧ s8 = .int .i64 kk ∧ Aside0 (Below w.heap.size w wr) ∧ Aside0 (∀ j, j < kk → l0.getD j 0 = 0))
  case atStart => exact ⟨0, Nat.zero_le _, by omega, rfl, ⟨Below.refl _ w⟩, ⟨fun j hj => absurd hj (Nat.not_lt_zero _)⟩⟩
  case round =>
    obtain ⟨kk, hkk, hg, rfl, BW, A⟩ := hrel
    by_cases hlt : kk < l0.length
    · have hltz : (kk : Int) < (l0.length : Int) := by omega
      obtain ⟨ad, ead, hx0⟩ := Kd.at_int HR0.out (kk : Int) (by omega) hltz
      cases ead
      rw [Int.toNat_natCast] at hx0
      replace hx0 := (BW.out.cell (World.block_lt_of_cell? w _ hx0)).trans hx0
      have hcall := hcl wr (rd l0 kk)
      clear hcl
      have hit : rd l0 (kk : Int) = l0.getD kk 0 := by unfold rd; rw [Int.toNat_natCast]
      have RD := Aside0.mk (rfl : rd l0 (kk : Int) = rd l0 (kk : Int))
      have HLT := Aside0.mk hlt
      generalize hy : rd l0 (kk : Int) = y at hx0 hcall hit
      have IT := Aside0.mk hit
      have HY := Aside0.mk hy
      clear hit hy RD
      by_cases hq : y = 0
      · have e : (y != 0) = false := by simp [hq]
        rw [e] at hcall
        have Q := Aside0.mk hq
        clear hq e
        go_wp2_with (go_at_call 81; refine hcall.mono ?_; rintro e w' ⟨rfl, hb'⟩)
        go_roundg (l0.length - (kk + 1))
        case measure => omega
        case rel =>
          refine ⟨kk + 1, by omega, by omega, by go_num, ⟨below_step BW.out hb'.below⟩, ⟨fun j hj => ?_⟩⟩
          by_cases e : j = kk
          · subst e
            rw [← IT.out]; exact Q.out
          · exact A.out j (by omega)
      · have e : (y != 0) = true := by simp [hq]
        rw [e] at hcall
        have Q := Aside0.mk hq
        clear hq e
        go_wp2_with (go_at_call 81; refine hcall.mono ?_; rintro e w' ⟨rfl, hb'⟩)
        go_ret
        have hl := impl_HeavyPlan.lead_at l0 kk HLT.out A.out (by rw [← IT.out]; exact Q.out)
        refine ⟨kk, rfl, .inr ⟨Int.natCast_nonneg _, hltz, ?_, ?_⟩, below_step BW.out hb'.below⟩
        · rw [hl, HY.out, IT.out]
        · rw [hl, ← IT.out]; exact Q.out
    · have hltz : ¬ (kk : Int) < (l0.length : Int) := by omega
      obtain rfl : kk = l0.length := by omega
      go_wp2
      go_ret
      exact ⟨-1, rfl, .inl ⟨rfl, impl_HeavyPlan.lead_none l0 A.out⟩, BW.out⟩
/-- What is known at each round. -/
structure impl_HeavyPlan.Inv (w : World) (A : Option Addr) (c : Nat) (kit : List Int) (bb B : Nat) (codes : List (List Int)) (W : World) : Prop where
  bel : Below w.heap.size w W
  row : ∃ v, W.heap[bb]? = some (.cells #[v] 24 (0, 0)) ∧ Kd.N (Kd.slice 3 (Kd.int .i64)) 25 W w.heap.size (fun k => w.heap.size ≤ k ∧ k ≠ bb ∧ ¬ impl_eachSigns.mine B k) v codes
  kit : Kd.R (Kd.int .i64) 3 W w.heap.size (fun k => k ≠ bb ∧ ¬ impl_eachSigns.mine B k) (.slice A kit.length c) kit
theorem impl_HeavyPlan.Inv.step {w : World} {A : Option Addr} {c : Nat} {kit : List Int} {bb B : Nat} {codes : List (List Int)} {W W2 : World} (h : impl_HeavyPlan.Inv w A c kit bb B codes W) (hwb : w.heap.size ≤ B) (hbb : bb < B) (hb : Below B W W2) (hk : Kept W W2 (impl_eachSigns.mine B)) : impl_HeavyPlan.Inv w A c kit bb B codes W2 := by
  obtain ⟨v, hv, hr⟩ := h.row
  exact ⟨h.bel.trans ⟨hb.os, hb.tape, hb.output, hb.size, fun k hk => hb.block k (by omega)⟩, ⟨v, blk_kept hv hk (by simp only [impl_eachSigns.mine]; omega), Kd.N_kept hr hk (fun k hk => hk.2.2)⟩, Kd.R_kept h.kit hk (fun k hk => hk.2)⟩
/-- Two codes more, if the signs lead. -/
def impl_HeavyPlan.more (codes : List (List Int)) (x : List Int) : Option (List (List Int)) := if impl_HeavyPlan.lead x > 0 then (if codes.length < 1000000 then some (codes ++ [x, x.map fun s => wrap64 (-s)]) else none) else some codes
theorem impl_HeavyPlan.store_step {P : Program} {ops : Array Oper} {o : Oper} {a : Act} {Q : Exit → Act → World → Prop} {Kc : Act → World → Prop} {W w1 : World} (hw : Region.wanted o (yielded ops a.tmps) = true) (hN : o.dst = none) (hrun : (execOp a.eval o).run P W = .ok .skip w1) (h : Kc a w1) :
    if Region.wanted o (yielded ops a.tmps) = true then Oper.wp P o a W Kc Q else Kc (a.put o.dst undef) W := by
  rw [if_pos hw]
  unfold Oper.wp
  rw [hrun]
  show Kc (a.put o.dst undef) w1
  rw [hN]
  exact h
set_option maxHeartbeats 8000000 in
set_option maxRecDepth 100000 in
theorem impl_HeavyPlan.tell (w : World) (A : Option Addr) (c : Nat) (kit : List Int) (bb B : Nat) (hwb : w.heap.size ≤ bb) (hbb : bb < B) (hlen : kit.length < 1000000)
    (codes codes2 : List (List Int)) (W : World) (vs : Value) (x : List Int) (sum : Int) (hi : impl_HeavyPlan.Inv w A c kit bb B codes W) (hB : B + 6 ≤ W.heap.size) (hx : x.length = kit.length) (hr : Kd.R (Kd.int .i64) 3 W B (fun k => k = B + 3) vs x) (hm : impl_HeavyPlan.more codes x = some codes2) :
    Calls Try.prog 79 #[vs, .int .i64 sum, .pointer (some ⟨bb, 0, none⟩)] W fun e W' => e = .returned (.tuple #[]) ∧ impl_HeavyPlan.Inv w A c kit bb B codes2 W' ∧ Kept W W' (fun k => ¬ impl_eachSigns.mine B k) := by
  obtain ⟨As, cs, es⟩ := Kd.R_slice hr
  subst es
  obtain ⟨_, hcs, hcx⟩ := Kd.R_reads' hr
  have CX := Aside0.mk hcx
  have LX := Aside0.mk hcs
  have HI := Aside0.mk hi
  have HLX := Aside0.mk (show x.length < 1000000 by omega)
  have HB6 := Aside0.mk hB
  have HM := Aside0.mk hm
  clear hi hr hcx hcs hB hx hm
  go_enter Try.func79, Try.ntmps79
  go_wp2_with (go_at_call 80; refine (impl_HeavyPlan.index As cs x _ (Sq.C CX.out) (by have := HLX.out; omega)).mono ?_; rintro e w1 ⟨r, rfl, hr1, hb1⟩; have HR1 := Aside0.mk hr1; have HB := Aside0.mk (show Below W.heap.size W w1 from by first | exact hb1 | exact (pw_below_drewN (Below.refl _ _) _).trans hb1); clear hr1 hb1; refine Hid.out ?_)
  unfold Hid
  have quit : impl_HeavyPlan.Inv w A c kit bb B codes w1 ∧ Kept W w1 (fun k => ¬ impl_eachSigns.mine B k) := by
    have h6 := HB6.out
    exact ⟨HI.out.step (by omega) hbb ⟨HB.out.os, HB.out.tape, HB.out.output, HB.out.size, fun k hk => HB.out.block k (by omega)⟩ (Kept.of_below HB.out _), Kept.of_below HB.out _⟩
  have QUIT := Aside0.mk quit
  clear quit
  rcases HR1.out with ⟨rfl, h0⟩ | ⟨r0, r1, r2, r3⟩
  · have hm2 : codes2 = codes := by
      have hm := HM.out
      unfold impl_HeavyPlan.more at hm
      rw [if_neg (by omega)] at hm
      exact (Option.some.inj hm).symm
    subst hm2
    clear h0 HR1 HM
    go_wp2
    ((try simp only [Exit.inBlock, Exit.then]); refine bodyPost_ret (results_none rfl _ _ _) rfl ?_)
    exact ⟨rfl, QUIT.out.1, QUIT.out.2⟩
  · obtain ⟨ad, ead, hxc⟩ := Kd.at_int CX.out r r0 r1
    cases ead
    replace hxc := (HB.out.cell (World.block_lt_of_cell? W _ hxc)).trans hxc
    rw [r2] at hxc
    have p0 : (0 ≤ r) = True := eq_true r0
    have p1 : (r < (x.length : Int)) = True := eq_true r1
    have p2 : decide (r < 0) = false := decide_eq_false (by omega)
    have hm := HM.out
    unfold impl_HeavyPlan.more at hm
    clear HR1 HM r2 r0 r1
    generalize impl_HeavyPlan.lead x = q at hxc hm r3
    by_cases hl : q > 0
    · rw [if_pos hl] at hm
      have p3 : decide (q < 0) = false := decide_eq_false (by omega)
      clear r3
      by_cases hcl : codes.length < 1000000
      · rw [if_pos hcl] at hm
        obtain rfl := Option.some.inj hm
        have HCL := Aside0.mk hcl
        clear hm hl hcl QUIT
        go_wp2_with ((with_reducible refine gate_dst (N := 20) rfl ?_); refine Kd.R_lit (Kd.int .i64) _ 3 ?hg (N := 20) ?hd (xs := ([] : List Int)) (inner := []) (ok := fun _ => True) (okp := fun _ => True) ?hr ?hp (fun _ hk => hk) trivial (Below.refl _ _) (Nat.le_refl _) (by simp) ?_; (case hd => rfl); (case hg => rfl); (case hr => first | (go_simp; done) | (go_simp; rfl)); (case hp => exact (Reps.none _ _)); intro v20 w2 ho hb hg_ hnew_; clear hg_ hnew_; have HO := Sq.L ho HB; replace HB := Sq.S HB hb; clear hb ho)
        go_loopg [6, 23] x.length (fun gg v6 v23 wr => ∃ kk : Nat, kk ≤ x.length ∧ x.length - kk ≤ gg ∧ v23 = .int .i64 kk ∧ Aside0 (Kd.R (Kd.int .i64) 3 wr W.heap.size (fun _ => True) v6 ((x.take kk).map fun s => wrap64 (-s))) ∧ Aside0 (Below W.heap.size W wr))
        case atStart => exact ⟨0, Nat.zero_le _, by omega, rfl, ⟨by (with_reducible repeat (first | apply Kd.R_alloc | apply Kd.R_drewN | apply Kd.R_drew)); exact HO.out⟩, ⟨Sq.B HB⟩⟩
        case round =>
          clear hxc p0 p1 p2 p3 HO HB
          obtain ⟨kk, hkk, hg, rfl, HO, HB⟩ := hrel
          by_cases hlt : kk < x.length
          · have hltz : (kk : Int) < (x.length : Int) := by omega
            obtain ⟨ad2, ead2, hx2⟩ := Kd.at_int CX.out (kk : Int) (by omega) hltz
            cases ead2
            rw [Int.toNat_natCast] at hx2
            replace hx2 := (HB.out.cell (World.block_lt_of_cell? W _ hx2)).trans hx2
            have hit : (x.take (kk + 1)).map (fun s => wrap64 (-s)) = (x.take kk).map (fun s => wrap64 (-s)) ++ [wrap64 (-(rd x (kk : Int)))] := by
              rw [List.take_add_one, List.getElem?_eq_getElem hlt, List.map_append]
              unfold rd
              rw [Int.toNat_natCast, List.getD_eq_getElem?_getD, List.getElem?_eq_getElem hlt]
              rfl
            have IT := Aside0.mk hit
            have HLT := Aside0.mk hlt
            have hzl : ((x.take kk).map fun s => wrap64 (-s)).length < 1000000 := by have := HLX.out; rw [List.length_map, List.length_take]; omega
            have HZ := Aside0.mk hzl
            clear hit hzl
            generalize (x.take kk).map (fun s => wrap64 (-s)) = y at HO IT HZ
            have z0 : (0 ≤ (kk : Int)) = True := eq_true (Int.natCast_nonneg _)
            have z1 : ((kk : Int) < (x.length : Int)) = True := eq_true hltz
            obtain ⟨A6, c6, e6⟩ := Kd.R_slice HO.out
            subst e6
            go_wp2_with ((with_reducible refine gate_builtin (b := .append) (xs := #[.tmp 27, .tmp 30]) rfl ?_); at_builtin; refine Kd.R_append (Kd.int .i64) (w0 := W) W.heap.size rfl (.tmp 27) (.tmp 30) 25 3 (.int .i64 0) 8 rfl Try.underlying25 info3 rfl (by decide) (by omega) (.slice A6 y.length c6) y (wrap64 (-(rd x (kk : Int)))) [.int .i64 (wrap64 (-(rd x (kk : Int))))] (fun _ => True) (fun _ => False) rfl rfl ?aP (fun _ hk => hk.elim) ?aF ?aO ?aB ?aS ?aL ?_; (case aP => exact rfl); (case aB => exact (Sq.B HB)); (case aF => exact (fun _ _ => trivial)); (case aO => exact (Sq.R HO)); (case aS => exact (below_size (Sq.B HB))); (case aL => have := HZ.out; omega); intro v31 w3 ho hb hg hat; replace HB := Aside0.mk hb; replace HO := Aside0.mk ho; clear ho hb hg hat)
            go_roundg (x.length - (kk + 1))
            case measure => have := HLT.out; omega
            case rel =>
              rw [← IT.out] at HO
              have hlt := HLT.out
              have hlx := HLX.out
              exact ⟨kk + 1, HLT.out, Nat.le_refl _, congrArg (Value.int .i64) (show wrap64 ((kk : Int) + 1) = ((kk + 1 : Nat) : Int) from by unfold wrap64; omega), ⟨by (with_reducible repeat (first | apply Kd.R_alloc | apply Kd.R_drewN | apply Kd.R_drew)); exact HO.out⟩, ⟨Sq.B HB⟩⟩
          · obtain rfl : kk = x.length := by omega
            rw [List.take_length] at HO
            clear hlt hkk hg
            generalize hym : (x.map fun s => wrap64 (-s)) = y at *
            have HYM := Aside0.mk (show y.length < 1000000 by rw [← hym, List.length_map]; exact HLX.out)
            have HYE := Aside0.mk hym
            clear hym
            obtain ⟨A6, c6, e6⟩ := Kd.R_slice HO.out
            subst e6
            obtain ⟨v, hv, hbr⟩ := HI.out.row
            obtain ⟨Ac, cc, ec⟩ := Kd.N_slice hbr
            subst ec
            have HLB := Aside0.mk (blk_lt hv)
            have HV := Aside0.mk hv
            have HN := Aside0.mk hbr
            clear hv hbr
            go_wp2
            have HBd := Aside0.mk (below_drew1 HB.out)
            have HOd := Aside0.mk (Kd.R_drew HO.out)
            have hv4 := (HBd.out.block bb HLB.out).trans HV.out
            have HV4 := Aside0.mk hv4
            have hc4 : (wr.drew).cell? ⟨bb, 0, none⟩ = some (.slice Ac codes.length cc) := (blk_cell hv4 0).trans rfl
            refine start_ (n := 7) (S := fun w' => w'.cell? ⟨bb, 0, none⟩ = some (.slice Ac codes.length cc)) (ds := [6]) #[false, false, false, false, false, false, false] (by kernel_rfl) rfl rfl hc4 (fun hHeld => ?_)
            clear hc4 hv4 HO HB
            generalize wr.drew = w4 at HBd HOd HV4 hHeld ⊢
            refine pure_ (i := 1) (N := some 34) (v := ?_) (a' := ?_) #[false, true, false, false, false, false, false] rfl rfl (by kernel_rfl) (fun _ _ _ h => h) (Or.inl ⟨by rfl, ?_⟩) ?_ ?_
            rotate_left
            · intro w'
              go_simp
              with_reducible rfl
            rotate_left
            · simp only [Act.put, List.setIfInBounds_toArray, List.set_cons_zero, List.set_cons_succ, i64_w, i32_w]
              rfl
            refine pure_ (i := 3) (N := some 36) (v := ?_) (a' := ?_) #[false, true, false, true, false, false, false] rfl rfl (by kernel_rfl) (fun _ _ _ h => h) (Or.inl ⟨by rfl, ?_⟩) ?_ ?_
            rotate_left
            · intro w'
              go_simp
              with_reducible rfl
            rotate_left
            · simp only [Act.put, List.setIfInBounds_toArray, List.set_cons_zero, List.set_cons_succ, i64_w, i32_w]
              rfl
            refine take_ (i := 0) (N := some 33) (v := ?_) (a' := ?_) #[true, true, false, true, false, false, false] rfl rfl (by kernel_rfl) (fun _ _ _ h => h) (Or.inl ⟨by rfl, ?_⟩) hHeld ?_ ?_
            rotate_left
            · intro w' s0
              go_simp
              with_reducible rfl
            rotate_left
            · simp only [Act.put, List.setIfInBounds_toArray, List.set_cons_zero, List.set_cons_succ, i64_w, i32_w]
              rfl
            refine one_ (i := 2) (N := some 35) #[true, true, true, true, false, false, false] rfl rfl (by kernel_rfl) (by decide) (fun K hK => ?_)
            refine goes_ Try.func82 (by kernel_rfl) rfl #[.slice (some ad) x.length cs] (by rfl) rfl rfl (by (try simp only [List.map_toArray, List.map_cons, List.map_nil]); first | done | rfl | (simp only [List.length_drop, List.length_take]; rfl)) ?_
            with_reducible refine (slices_Clone_int_int.calls _ _ x x _ ?side1 ?side2 ?side3).mono ?_
            (case side1 => exact Kd.C_below CX.out HBd.out)
            (case side2 => exact LX.out)
            (case side3 => have := HLX.out; unfold slices_Clone_int_int.f; rw [if_pos (by omega)])
            rintro e w5 ⟨v35, rfl, ho, hb⟩
            refine ⟨_, rfl, ?_⟩
            obtain ⟨A8, c8, e8⟩ := Kd.R_slice ho
            subst e8
            have HB5 := Aside0.mk (HBd.out.trans ⟨hb.os, hb.tape, hb.output, hb.size, fun k hk => hb.block k (Nat.lt_of_lt_of_le hk HBd.out.size)⟩)
            have HO5 := Aside0.mk (Kd.R_below HOd.out hb)
            have HX5 := Aside0.mk (Kd.R_lower ho HBd.out.size)
            have hv5 := (HB5.out.block bb HLB.out).trans HV.out
            have HV5 := Aside0.mk hv5
            have hc5 : w5.cell? ⟨bb, 0, none⟩ = some (.slice Ac codes.length cc) := (blk_cell hv5 0).trans rfl
            clear ho hb hv5 HV4 HBd HOd
            refine hK.out _ _ hc5 (fun hHeld => ?_)
            clear hK K hc5
            refine norm_ (a' := ?_) ?_ ?_
            rotate_left
            · show Act.put _ (some 35) _ = _
              simp only [Act.put, List.setIfInBounds_toArray, List.set_cons_zero, List.set_cons_succ, i64_w, i32_w]
              rfl
            refine one_ (i := 4) (N := some 37) #[true, true, true, true, true, false, false] rfl rfl (by kernel_rfl) (by decide) (fun K hK => ?_)
            refine Kd.N_lit_step (Kd.slice 3 (Kd.int .i64)) _ 25 ?hg (N' := 37) ?hd (xs := ([x, y] : List (List Int))) (inner := [.slice A8 x.length c8, .slice A6 y.length c6]) (ok := (fun k => W.heap.size ≤ k)) (okp := (fun k => W.heap.size ≤ k)) ?hr ?hp (fun _ hk => hk) HB5.out.size (Below.refl _ _) (Nat.le_refl _) (by simp) ?_
            (case hd => rfl)
            (case hg => rfl)
            (case hr => first | (go_simp; done) | (go_simp; rfl))
            (case hp => exact (Reps.one (show Kd.FK (Kd.slice 3 (Kd.int .i64)) _ _ x [.slice A8 x.length c8] from (Kd.FK_slice_mk (Kd.R_reads' HX5.out).2.1 (Kd.R_F (Kd.R_mono (ok' := (fun k => W.heap.size ≤ k)) (Kd.R_bound HX5.out) (fun k hk => hk.2.1))))) (Reps.one (show Kd.FK (Kd.slice 3 (Kd.int .i64)) _ _ y [.slice A6 y.length c6] from (Kd.FK_slice_mk (Kd.R_reads' HO5.out).2.1 (Kd.R_F (Kd.R_mono (ok' := (fun k => W.heap.size ≤ k)) (Kd.R_bound HO5.out) (fun k hk => hk.2.1))))) (Reps.none _ _))))
            intro v37 w6 ho6 hb hg_ hnew_
            clear hg_ hnew_
            obtain ⟨A7, c7, e7⟩ := Kd.N_slice ho6
            subst e7
            have HB6' := Aside0.mk (HB5.out.trans ⟨hb.os, hb.tape, hb.output, hb.size, fun k hk => hb.block k (Nat.lt_of_lt_of_le hk HB5.out.size)⟩)
            have hv6 := (HB6'.out.block bb HLB.out).trans HV.out
            have HV6 := Aside0.mk hv6
            have HN6 := Aside0.mk (Kd.N_below HN.out HB6'.out)
            have HK6 := Aside0.mk (Kd.R_below HI.out.kit HB6'.out)
            have HL6 := Aside0.mk ho6
            have hc6 : w6.cell? ⟨bb, 0, none⟩ = some (.slice Ac codes.length cc) := (blk_cell hv6 0).trans rfl
            clear ho6 hb hv6 HV5 HB5 HX5 HO5
            refine hK.out _ _ hc6 (fun hHeld => ?_)
            clear hK K hc6
            refine norm_ (a' := ?_) ?_ ?_
            rotate_left
            · show Act.put _ (some 37) _ = _
              simp only [Act.put, List.setIfInBounds_toArray, List.set_cons_zero, List.set_cons_succ, i64_w, i32_w]
              rfl
            refine one_ (i := 5) (N := some 38) #[true, true, true, true, true, true, false] rfl rfl (by kernel_rfl) (by decide) (fun K hK => ?_)
            refine Kd.N_append_rows_step (Kd.slice 3 (Kd.int .i64)) (w0 := w) w.heap.size (by rfl) (.tmp 33) (.tmp 37) 24 25 (.slice none 0 0) 24 rfl Try.underlying24 info25 rfl (by decide) (by omega) (.slice Ac codes.length cc) codes [x, y] _ _ _ (fun k => w.heap.size ≤ k ∧ k ≠ bb ∧ ¬ impl_eachSigns.mine B k) (fun k => W.heap.size ≤ k) rfl rfl ?aO ?aR ?aK ?aF ?aB ?aS ?aL ?_
            (case aO => exact HN6.out)
            (case aR => exact Kd.N_F HL6.out)
            (case aK =>
              intro k hk
              have h6 := HB6.out
              refine ⟨⟨by have := HI.out.bel.size; omega, by omega, by simp only [impl_eachSigns.mine]; omega⟩, fun e_ => ?_⟩
              have := Kd.N_lt HN.out k e_.symm
              omega)
            (case aF =>
              intro k hk
              have h6 := HB6.out
              have h7 := HB6'.out.size
              exact ⟨by have := HI.out.bel.size; omega, by omega, by simp only [impl_eachSigns.mine]; omega⟩)
            (case aB => exact HI.out.bel.trans ⟨HB6'.out.os, HB6'.out.tape, HB6'.out.output, HB6'.out.size, fun k hk => HB6'.out.block k (Nat.lt_of_lt_of_le hk HI.out.bel.size)⟩)
            (case aS => exact Nat.le_trans HI.out.bel.size HB6'.out.size)
            (case aL => have := HCL.out; simp only [List.length_cons, List.length_nil]; omega)
            intro v38 w7 ho7 hb7 hg7 hat7
            clear hat7
            obtain ⟨A9, c9, e9⟩ := Kd.N_slice ho7
            subst e9
            have hv7 := blk_grown HV6.out hg7 (fun e_ => (HN6.out.1 bb e_.symm).2.1 rfl)
            have hc7 : w7.cell? ⟨bb, 0, none⟩ = some (.slice Ac codes.length cc) := (blk_cell hv7 0).trans rfl
            have HK7 := Aside0.mk (Kd.R_over' HK6.out (Kd.N_typed HN6.out) (by decide) hg7)
            have HKP := Aside0.mk (Kept.of_grown hg7 (Kept.of_below HB6'.out (fun k => ¬ impl_eachSigns.mine B k)) (fun k e_ => .inl (HN6.out.1 k e_).2.2))
            have HN7 := Aside0.mk ho7
            have HB7 := Aside0.mk hb7
            have HV7 := Aside0.mk hv7
            clear ho7 hb7 hg7 hv7
            refine hK.out _ _ hc7 (fun hHeld => ?_)
            clear hK K
            refine norm_ (a' := ?_) ?_ ?_
            rotate_left
            · show Act.put _ (some 38) _ = _
              simp only [Act.put, List.setIfInBounds_toArray, List.set_cons_zero, List.set_cons_succ, i64_w, i32_w]
              rfl
            have f7 : w7.frozen? ⟨bb, 0, none⟩ = false := blk_frozen HV7.out 0
            refine last_ (i := 6) (N := none) #[true, true, true, true, true, true, true] rfl rfl (by kernel_rfl) (by decide) (fun K hK => ?_)
            refine impl_HeavyPlan.store_step (w1 := (w7.setCell ⟨bb, 0, none⟩ (.slice A9 (codes ++ [x, y]).length c9))) (by rfl) rfl ?hr (hK.out _ _ ?_)
            (case hr => first | (go_simp; done) | (go_simp; rfl))
            clear hK K
            refine done_ (by kernel_rfl) ?_
            try go_wp2
            go_end0
            refine ⟨rfl, ⟨?_, ⟨.slice A9 (codes ++ [x, y]).length c9, ?_, ?_⟩, ?_⟩, ?_⟩
            · exact HB7.out.setCell (p := ⟨bb, 0, none⟩) hwb _
            · exact blk_put HV7.out 0 _ rfl
            · rw [HYE.out]; exact Kd.N_far HN7.out (p := ⟨bb, 0, none⟩) (fun k hk => hk.2.1) _
            · exact Kd.R_far HK7.out (p := ⟨bb, 0, none⟩) (fun k hk => hk.1) _
            · exact HKP.out.setCell (p := ⟨bb, 0, none⟩) (.inl (by simp only [impl_eachSigns.mine]; omega)) _
      · rw [if_neg hcl] at hm
        cases hm
    · rw [if_neg hl] at hm
      obtain rfl := Option.some.inj hm
      have p3 : decide (q < 0) = true := decide_eq_true (by omega)
      go_wp2
      ((try simp only [Exit.inBlock, Exit.then]); refine bodyPost_ret (results_none rfl _ _ _) rfl ?_)
      exact ⟨rfl, QUIT.out.1, QUIT.out.2⟩
/-- The line of a weighing: a sign of each of the first n codes. -/
def impl_HeavyPlan.line (codes : List (List Int)) (n : Nat) (j : Int) : List Int := (codes.take n).map fun c => rd c j
def impl_HeavyPlan.lines (codes : List (List Int)) (n : Nat) : Nat → List (List Int)
  | 0 => []
  | j + 1 => impl_HeavyPlan.lines codes n j ++ [impl_HeavyPlan.line codes n (j : Int)]
theorem impl_HeavyPlan.lines_len (codes : List (List Int)) (n : Nat) : ∀ j, (impl_HeavyPlan.lines codes n j).length = j
  | 0 => rfl
  | j + 1 => by rw [impl_HeavyPlan.lines, List.length_append, impl_HeavyPlan.lines_len codes n j]; rfl
def impl_HeavyPlan.start (n : Int) (m : Nat) : List (List Int) := if Int.tmod n 2 = 1 then [List.replicate m 0] else []
def impl_HeavyPlan.g (n : Int) (m : Nat) : Option (List (List Int) × Bool) := if m ≤ 1000 then ((impl_eachSigns.eachG (fun codes x _ => impl_HeavyPlan.more codes x) (-1) (List.replicate m 0) [] 0 (impl_HeavyPlan.start n m)).bind fun codes => if 0 ≤ n ∧ n ≤ (codes.length : Int) ∧ codes.length ≤ 1000002 ∧ ((codes.take n.toNat).all fun c => decide (m ≤ c.length)) = true then some (impl_HeavyPlan.lines codes n.toNat m, true) else none) else none
def impl_HeavyPlan.f (k : Nat) (n : Int) : Option (List (List Int) × Bool) := (impl_WeighingsNeeded.f k n).bind fun bt => if bt.2 = true then (if 0 ≤ bt.1 then impl_HeavyPlan.g n bt.1.toNat else none) else some ([], false)
theorem impl_HeavyPlan.mono : ∀ a0 k, LeO (impl_HeavyPlan.f k a0) (impl_HeavyPlan.f (k + 1) a0) := by
  intro a0 k
  unfold impl_HeavyPlan.f
  exact LeO.bind (impl_WeighingsNeeded.mono _ _) (fun _ => LeO.refl _)
theorem impl_HeavyPlan.two (w W : World) (nd : Nat) (o0 o1 : Obj) (e : (((w.drewN nd).alloc o0).alloc o1) = W) : W.heap.size = w.heap.size + 2 ∧ Below w.heap.size w W ∧ W.heap[w.heap.size]? = some o0 ∧ W.heap[w.heap.size + 1]? = some o1 := by
  subst e
  obtain ⟨s1, h0⟩ := impl_eachSigns.sizes (w.drewN nd) o0 _ rfl
  obtain ⟨s2, h1⟩ := impl_eachSigns.sizes _ o1 _ s1
  exact ⟨s2, below_alloc (below_alloc (pw_below_drewN (Below.refl _ _) _) _) _, blk_alloc h0 _, h1⟩
theorem impl_HeavyPlan.empty (w W : World) (nd : Nat) (o1 : Obj) (e : (((w.drewN nd).alloc (.cells #[] 25)).alloc o1) = W) : Kd.N (Kd.slice 3 (Kd.int .i64)) 25 W w.heap.size (fun k => w.heap.size ≤ k ∧ k ≠ w.heap.size + 1) (.slice (some ⟨w.heap.size, 0, none⟩) 0 0) ([] : List (List Int)) := by
  subst e
  have h2 := World.ownsRow_lit (base := w.heap.size) (e := 25) (size := 1) (w.drewN nd) #[] 0 (Nat.le_refl _) (by simp [maxLen]) (by simp)
  have h3 : ((w.drewN nd).alloc (.cells #[] 25)).ownsRow w.heap.size 25 1 (.slice (some ⟨w.heap.size, 0, none⟩) 0 0) 0 [] := by simpa using h2
  refine Kd.R_N ⟨fun k hk => ?_, [], pw_own_below h3 (below_alloc (Below.refl _ _) _), Reps.none _ _⟩
  have : w.heap.size = k := by simpa [Value.ownBlock] using hk
  omega
set_option maxHeartbeats 8000000 in
set_option maxRecDepth 100000 in
theorem impl_HeavyPlan.calls (k : Nat) (a0 : Int) (r1 : List (List Int)) (r2 : Bool) (w : World) (h : impl_HeavyPlan.f k a0 = some (r1, r2)) :
    Calls Try.prog 21 #[.int .i64 a0] w fun e w' => ∃ v0_ : Value, e = .returned (.tuple #[v0_, .bool r2]) ∧ Kd.S (Kd.slice 3 (Kd.int .i64)) 25 w' w.heap.size (fun _ => True) v0_ r1 ∧ Below w.heap.size w w' := by
  have HB := Aside0.mk (Below.refl w.heap.size w)
  unfold impl_HeavyPlan.f at h
  obtain ⟨⟨t1, t2⟩, hk, h⟩ := Option.bind_eq_some_iff.mp h
  have HK := Aside0.mk hk
  clear hk
  cases t2 with
  | false =>
    simp only [Bool.false_eq_true, if_false, Option.some.injEq, Prod.mk.injEq] at h
    obtain ⟨rfl, rfl⟩ := h
    go_enter Try.func21, Try.ntmps21
    go_wp2_with (go_at_call 23; (with_reducible refine (impl_WeighingsNeeded.calls k a0 _ _ _ HK.out).mono ?_); rintro e w' ⟨rfl, ⟨nd, rfl⟩⟩)
    go_ret2
    exact ⟨_, rfl, Kd.S_nil _ _ _ _ _, Sq.B HB⟩
  | true =>
    simp only [if_true] at h
    by_cases h0 : 0 ≤ t1
    · rw [if_pos h0] at h
      obtain ⟨m, rfl⟩ := Int.eq_ofNat_of_zero_le h0
      rw [Int.toNat_natCast] at h
      unfold impl_HeavyPlan.g at h
      by_cases hm : m ≤ 1000
      · rw [if_pos hm] at h
        obtain ⟨codes, hg, h⟩ := Option.bind_eq_some_iff.mp h
        by_cases hc : 0 ≤ a0 ∧ a0 ≤ (codes.length : Int) ∧ codes.length ≤ 1000002 ∧ ((codes.take a0.toNat).all fun c => decide (m ≤ c.length)) = true
        · rw [if_pos hc] at h
          simp only [Option.some.injEq, Prod.mk.injEq] at h
          obtain ⟨rfl, rfl⟩ := h
          obtain ⟨n, rfl⟩ := Int.eq_ofNat_of_zero_le hc.1
          rw [Int.toNat_natCast] at hc ⊢
          have HG := Aside0.mk hg
          have HC := Aside0.mk hc
          have HM := Aside0.mk hm
          clear hg hc hm h0
          go_enter Try.func21, Try.ntmps21
          go_upto_if 22 with (go_at_call 23; (with_reducible refine (impl_WeighingsNeeded.calls k (n : Int) _ _ _ HK.out).mono ?_); rintro e w' ⟨rfl, ⟨nd, rfl⟩⟩)
          clear HK
          generalize hW : ((w.drewN nd).alloc (.cells #[] 25)).alloc (.cells #[.slice (some ⟨w.heap.size, 0, none⟩) 0 0] 24) = W0
          obtain ⟨z0, z1, z2, z3⟩ := impl_HeavyPlan.two w W0 nd _ _ hW
          have hrow := impl_HeavyPlan.empty w W0 nd _ hW
          clear hW
          have HZ0 := Aside0.mk z0
          have HB0 := Aside0.mk z1
          have HV0 := Aside0.mk z3
          have HN0 := Aside0.mk hrow
          clear z0 z1 z2 z3 hrow HB
          go_cut [] (fun wc => ∃ (v : Value), Aside0 (wc.heap[w.heap.size + 1]? = some (.cells #[v] 24 (0, 0))) ∧ Aside0 (Kd.N (Kd.slice 3 (Kd.int .i64)) 25 wc w.heap.size (fun k => w.heap.size ≤ k ∧ k ≠ w.heap.size + 1) v (impl_HeavyPlan.start (n : Int) m)) ∧ Aside0 (Below w.heap.size w wc) ∧ Aside0 (w.heap.size + 2 ≤ wc.heap.size))
          case first =>
            clear HG HC
            by_cases c8 : Int.tmod (n : Int) 2 = 1
            · have hst : impl_HeavyPlan.start (n : Int) m = [List.replicate m 0] := by unfold impl_HeavyPlan.start; rw [if_pos c8]
              have HST := Aside0.mk hst
              clear hst
              rw [Int.tmod_eq_emod_of_nonneg (Int.natCast_nonneg _)] at c8
              have c8b0 : (((n : Int) % 2) == 1) = true := beq_iff_eq.mpr c8
              clear c8
              rw [c8b0]
              go_wp2
              have HBd := Aside0.mk (below_drew1 (Below.refl W0.heap.size W0))
              have hv4 := (HBd.out.block (w.heap.size + 1) (by have := HZ0.out; omega)).trans HV0.out
              have HV4 := Aside0.mk hv4
              have hc4 : (W0.drew).cell? ⟨w.heap.size + 1, 0, none⟩ = some (.slice (some ⟨w.heap.size, 0, none⟩) 0 0) := (blk_cell hv4 0).trans rfl
              refine start_ (n := 6) (S := fun w' => w'.cell? ⟨w.heap.size + 1, 0, none⟩ = some (.slice (some ⟨w.heap.size, 0, none⟩) 0 0)) (ds := [5]) #[false, false, false, false, false, false] (by kernel_rfl) rfl rfl hc4 (fun hHeld => ?_)
              clear hc4 hv4
              generalize W0.drew = w4 at HBd HV4 hHeld ⊢
              refine pure_ (i := 1) (N := some 24) (v := ?_) (a' := ?_) #[false, true, false, false, false, false] rfl rfl (by kernel_rfl) (fun _ _ _ h => h) (Or.inl ⟨by rfl, ?_⟩) ?_ ?_
              rotate_left
              · intro w'
                go_simp
                with_reducible rfl
              rotate_left
              · simp only [Act.put, List.setIfInBounds_toArray, List.set_cons_zero, List.set_cons_succ, i64_w, i32_w]
                rfl
              refine take_ (i := 0) (N := some 23) (v := ?_) (a' := ?_) #[true, true, false, false, false, false] rfl rfl (by kernel_rfl) (fun _ _ _ h => h) (Or.inl ⟨by rfl, ?_⟩) hHeld ?_ ?_
              rotate_left
              · intro w' s0
                go_simp
                with_reducible rfl
              rotate_left
              · simp only [Act.put, List.setIfInBounds_toArray, List.set_cons_zero, List.set_cons_succ, i64_w, i32_w]
                rfl
              refine one_ (i := 2) (N := some 25) #[true, true, true, false, false, false] rfl rfl (by kernel_rfl) (by decide) (fun K hK => ?_)
              refine Kd.R_make_step (Kd.int .i64) _ 3 (by rfl) (N := 25) rfl 25 _ _ rfl (m : Int) rfl rfl Try.underlying25 (.int .i64 0) 8 info3 rfl (by decide) (by omega) 0 (ok := fun _ => True) (okp := fun _ => True) rfl (fun _ hk => hk) trivial (by omega) (by have := HM.out; omega) (Below.refl _ _) (Nat.le_refl _) ?_
              intro v25 w5 ho hb hg_ hnew_
              clear hg_ hnew_
              rw [Int.toNat_natCast] at ho
              have HY := Aside0.mk (List.length_replicate : (List.replicate m (0 : Int)).length = m)
              generalize List.replicate m (0 : Int) = y at ho HY HST
              obtain ⟨A5, c5, e5⟩ := Kd.R_slice ho
              subst e5
              have HB5 := Aside0.mk (HBd.out.trans ⟨hb.os, hb.tape, hb.output, hb.size, fun k hk => hb.block k (Nat.lt_of_lt_of_le hk HBd.out.size)⟩)
              have HO5 := Aside0.mk (Kd.R_lower ho HBd.out.size)
              have hv5 := (HB5.out.block (w.heap.size + 1) (by have := HZ0.out; omega)).trans HV0.out
              have hc5 : w5.cell? ⟨w.heap.size + 1, 0, none⟩ = some (.slice (some ⟨w.heap.size, 0, none⟩) 0 0) := (blk_cell hv5 0).trans rfl
              clear ho hb hv5 HV4 HBd
              refine hK.out _ _ hc5 (fun hHeld => ?_)
              clear hK K hc5
              refine norm_ (a' := ?_) ?_ ?_
              rotate_left
              · show Act.put _ (some 25) _ = _
                simp only [Act.put, List.setIfInBounds_toArray, List.set_cons_zero, List.set_cons_succ, i64_w, i32_w]
                rfl
              refine one_ (i := 3) (N := some 26) #[true, true, true, true, false, false] rfl rfl (by kernel_rfl) (by decide) (fun K hK => ?_)
              refine Kd.N_lit_step (Kd.slice 3 (Kd.int .i64)) _ 25 ?hg (N' := 26) ?hd (xs := ([y] : List (List Int))) (inner := [.slice A5 y.length c5]) (ok := (fun k => W0.heap.size ≤ k)) (okp := (fun k => W0.heap.size ≤ k)) ?hr ?hp (fun _ hk => hk) HB5.out.size (Below.refl _ _) (Nat.le_refl _) (by simp) ?_
              (case hd => rfl)
              (case hg => rfl)
              (case hr => first | (go_simp; done) | (go_simp; rfl))
              (case hp => exact (Reps.one (show Kd.FK (Kd.slice 3 (Kd.int .i64)) _ _ y [.slice A5 y.length c5] from (Kd.FK_slice_mk (Kd.R_reads' HO5.out).2.1 (Kd.R_F (Kd.R_mono (ok' := (fun k => W0.heap.size ≤ k)) (Kd.R_bound HO5.out) (fun k hk => hk.2.1))))) (Reps.none _ _)))
              intro v26 w6 ho6 hb hg_ hnew_
              clear hg_ hnew_
              obtain ⟨A7, c7, e7⟩ := Kd.N_slice ho6
              subst e7
              have HB6 := Aside0.mk (HB5.out.trans ⟨hb.os, hb.tape, hb.output, hb.size, fun k hk => hb.block k (Nat.lt_of_lt_of_le hk HB5.out.size)⟩)
              have hv6 := (HB6.out.block (w.heap.size + 1) (by have := HZ0.out; omega)).trans HV0.out
              have HV6 := Aside0.mk hv6
              have HN6 := Aside0.mk (Kd.N_below HN0.out HB6.out)
              have HL6 := Aside0.mk ho6
              have hc6 : w6.cell? ⟨w.heap.size + 1, 0, none⟩ = some (.slice (some ⟨w.heap.size, 0, none⟩) 0 0) := (blk_cell hv6 0).trans rfl
              clear ho6 hb hv6 HB5 HO5
              refine hK.out _ _ hc6 (fun hHeld => ?_)
              clear hK K hc6
              refine norm_ (a' := ?_) ?_ ?_
              rotate_left
              · show Act.put _ (some 26) _ = _
                simp only [Act.put, List.setIfInBounds_toArray, List.set_cons_zero, List.set_cons_succ, i64_w, i32_w]
                rfl
              refine one_ (i := 4) (N := some 27) #[true, true, true, true, true, false] rfl rfl (by kernel_rfl) (by decide) (fun K hK => ?_)
              refine Kd.N_append_rows_step (Kd.slice 3 (Kd.int .i64)) (w0 := w) w.heap.size (by rfl) (.tmp 23) (.tmp 26) 24 25 (.slice none 0 0) 24 rfl Try.underlying24 info25 rfl (by decide) (by omega) (.slice (some ⟨w.heap.size, 0, none⟩) 0 0) ([] : List (List Int)) [y] _ _ _ (fun k => w.heap.size ≤ k ∧ k ≠ w.heap.size + 1) (fun k => W0.heap.size ≤ k) rfl rfl ?aO ?aR ?aK ?aF ?aB ?aS ?aL ?_
              (case aO => exact HN6.out)
              (case aR => exact Kd.N_F HL6.out)
              (case aK =>
                intro k hk
                have h6 := HZ0.out
                refine ⟨⟨by omega, by omega⟩, fun e_ => ?_⟩
                have : w.heap.size = k := by simpa [Value.ownBlock] using e_.symm
                omega)
              (case aF =>
                intro k hk
                have h6 := HZ0.out
                have h7 := HB6.out.size
                exact ⟨by omega, by omega⟩)
              (case aB => exact HB0.out.trans ⟨HB6.out.os, HB6.out.tape, HB6.out.output, HB6.out.size, fun k hk => HB6.out.block k (Nat.lt_of_lt_of_le hk HB0.out.size)⟩)
              (case aS => exact Nat.le_trans HB0.out.size HB6.out.size)
              (case aL => simp only [List.length_cons, List.length_nil]; omega)
              intro v27 w7 ho7 hb7 hg7 hat7
              clear hat7
              rw [List.nil_append] at ho7
              obtain ⟨A9, c9, e9⟩ := Kd.N_slice ho7
              subst e9
              have hv7 := blk_grown HV6.out hg7 (fun e_ => (HN6.out.1 (w.heap.size + 1) e_.symm).2 rfl)
              have hc7 : w7.cell? ⟨w.heap.size + 1, 0, none⟩ = some (.slice (some ⟨w.heap.size, 0, none⟩) 0 0) := (blk_cell hv7 0).trans rfl
              have HZ7 := Aside0.mk (show w.heap.size + 2 ≤ w7.heap.size by have h6 := HZ0.out; have h7 := HB6.out.size; have h8 := hg7.size; omega)
              have HN7 := Aside0.mk ho7
              have HB7 := Aside0.mk hb7
              have HV7 := Aside0.mk hv7
              clear ho7 hb7 hg7 hv7
              refine hK.out _ _ hc7 (fun hHeld => ?_)
              clear hK K
              refine norm_ (a' := ?_) ?_ ?_
              rotate_left
              · show Act.put _ (some 27) _ = _
                simp only [Act.put, List.setIfInBounds_toArray, List.set_cons_zero, List.set_cons_succ, i64_w, i32_w]
                rfl
              have f7 : w7.frozen? ⟨w.heap.size + 1, 0, none⟩ = false := blk_frozen HV7.out 0
              refine last_ (i := 5) (N := none) #[true, true, true, true, true, true] rfl rfl (by kernel_rfl) (by decide) (fun K hK => ?_)
              refine impl_HeavyPlan.store_step (w1 := (w7.setCell ⟨w.heap.size + 1, 0, none⟩ (.slice A9 [y].length c9))) (by rfl) rfl ?hr (hK.out _ _ ?_)
              (case hr => first | (go_simp; done) | (go_simp; rfl))
              clear hK K
              refine done_ (by kernel_rfl) ?_
              try go_wp2
              go_meet
              case rel =>
                refine ⟨.slice A9 [y].length c9, ⟨blk_put HV7.out 0 _ rfl⟩, ⟨?_⟩, ⟨HB7.out.setCell (p := ⟨w.heap.size + 1, 0, none⟩) (Nat.le_succ _) _⟩, ⟨?_⟩⟩
                · rw [HST.out]
                  exact Kd.N_far HN7.out (p := ⟨w.heap.size + 1, 0, none⟩) (fun k hk => hk.2) _
                · have := HZ7.out
                  rw [World.size_setCell]
                  exact this
            · have hst : impl_HeavyPlan.start (n : Int) m = [] := by unfold impl_HeavyPlan.start; rw [if_neg c8]
              have HST := Aside0.mk hst
              clear hst
              rw [Int.tmod_eq_emod_of_nonneg (Int.natCast_nonneg _)] at c8
              have c8b0 : (((n : Int) % 2) == 1) = false := beq_eq_false_iff_ne.mpr c8
              clear c8
              rw [c8b0]
              go_wp2
              go_meet
              case rel => exact ⟨_, HV0, by rw [HST.out]; exact HN0, HB0, ⟨by have := HZ0.out; omega⟩⟩
          case rest =>
            clear HV0 HN0 HB0 HZ0
            obtain ⟨v, HV, HN, HB, HZ⟩ := hcut
            have hkit : Kd.R (Kd.int .i64) 3 (wc.alloc (.cells (madeCells #[.int .i64 0] m) 3)) w.heap.size (fun k => k = wc.heap.size) (.slice (some ⟨wc.heap.size, 0, none⟩) m m) (List.replicate m 0) := by
              have z := impl_eachSigns.row_new wc w.heap.size m HB.out.size (by have := HM.out; omega)
              rwa [Nat.mul_one] at z
            have hmk := print_make (P := Try.prog) 25 3 .i64 8 Try.underlying25 info3 (by omega) m (by have := HM.out; omega)
            have HKIT := Aside0.mk hkit
            clear hkit
            go_wp2_with (go_at_call 78; refine Hid.out ?_)
            unfold Hid
            clear hmk
            have hWs : (wc.alloc (.cells (madeCells #[.int .i64 0] m) 3)).heap.size = wc.heap.size + 1 := World.size_alloc _ _
            have hWb : Below wc.heap.size wc (wc.alloc (.cells (madeCells #[.int .i64 0] m) 3)) := below_alloc (Below.refl _ _) _
            generalize wc.alloc (.cells (madeCells #[.int .i64 0] m) 3) = W at hWs hWb HKIT ⊢
            have hinv : impl_HeavyPlan.Inv w (some ⟨wc.heap.size, 0, none⟩) m (List.replicate m 0) (w.heap.size + 1) W.heap.size (impl_HeavyPlan.start (n : Int) m) W := by
              have hz := HZ.out
              refine ⟨HB.out.trans ⟨hWb.os, hWb.tape, hWb.output, hWb.size, fun k hk => hWb.block k (Nat.lt_of_lt_of_le hk HB.out.size)⟩, ⟨v, (hWb.block _ (by omega)).trans HV.out, ?_⟩, ?_⟩
              · exact Kd.N_mono (Kd.N_below (Kd.N_bound HN.out) hWb) (fun k hk => ⟨hk.1.1, hk.1.2, by have := hk.2; simp only [impl_eachSigns.mine]; omega⟩)
              · rw [List.length_replicate]
                exact Kd.R_mono HKIT.out (fun k hk => by simp only [impl_eachSigns.mine]; omega)
            have HE := impl_eachSigns.each_calls (impl_HeavyPlan.Inv w (some ⟨wc.heap.size, 0, none⟩) m (List.replicate m 0) (w.heap.size + 1) W.heap.size) (fun codes x _ => impl_HeavyPlan.more codes x) (some ⟨wc.heap.size, 0, none⟩) m (List.replicate m 0) (-1) 79 #[.pointer (some ⟨w.heap.size + 1, 0, none⟩)] (by omega) (by omega) (by have := HM.out; rw [List.length_replicate]; omega) (enters_of (P := Try.prog) Try.func79 (by kernel_rfl) rfl) W
              (fun s W1 hi => (Kd.R_reads' hi.kit).2.2)
              (fun s W1 W2 hi hB hb hk => hi.step (by have := HB.out.size; omega) (by have := HZ.out; omega) hb hk)
              (fun vs s W1 x sum s' hi hB hx hr hs => impl_HeavyPlan.tell w (some ⟨wc.heap.size, 0, none⟩) m (List.replicate m 0) (w.heap.size + 1) W.heap.size (by omega) (by have := HZ.out; omega) (by have := HM.out; rw [List.length_replicate]; omega) s s' W1 vs x sum hi hB hx hr hs)
              (impl_HeavyPlan.start (n : Int) m) codes hinv HG.out
            rw [List.length_replicate] at HE
            have HE' := Aside0.mk HE
            clear hinv HE hWs hWb HKIT HG HV HN HB HZ
            refine HE'.out.mono ?_
            rintro e w1 ⟨rfl, hi⟩
            clear HE'
            obtain ⟨vc, hv1, hn1⟩ := hi.row
            obtain ⟨Ac, cc, ec⟩ := Kd.N_slice hn1
            subst ec
            have HV1 := Aside0.mk hv1
            have HN1 := Aside0.mk hn1
            have HB1 := Aside0.mk hi.bel
            have HL1 := Aside0.mk (blk_lt hv1)
            have HR1 := Aside0.mk (Kd.N_reads' hn1).2.1
            have HB := Aside0.mk (Below.refl w1.heap.size w1)
            clear hi hv1 hn1
            go_wp2_with ((with_reducible refine gate_dst (N := 32) rfl ?_); refine Kd.S_lit (Kd.slice 3 (Kd.int .i64)) _ 25 ?hg (N := 32) ?hd (xs := ([] : List (List Int))) (inner := []) (ok := fun _ => True) (okp := fun _ => True) ?hr ?hp (fun _ hk => hk) trivial (Below.refl _ _) (Nat.le_refl _) (by simp) ?_; (case hd => rfl); (case hg => rfl); (case hr => first | (go_simp; done) | (go_simp; rfl)); (case hp => exact (Reps.none _ _)); intro v32 w2 ho hb hg_ hnew_; clear hg_ hnew_; have HS := Aside0.mk (Kd.S_lower ho (below_size (Sq.B HB))); replace HB := Sq.S HB hb; clear hb ho)
            go_loopg [7, 34] m (fun gg v7 v34 wr => ∃ j : Nat, j ≤ m ∧ m - j ≤ gg ∧ v34 = .int .i64 j ∧ Aside0 (Kd.S (Kd.slice 3 (Kd.int .i64)) 25 wr w1.heap.size (fun _ => True) v7 (impl_HeavyPlan.lines codes n j)) ∧ Aside0 (Below w1.heap.size w1 wr))
            case atStart => exact ⟨0, Nat.zero_le _, by omega, rfl, ⟨by (with_reducible repeat (first | apply Kd.S_alloc | apply Kd.S_drewN | apply Kd.S_drew)); exact HS.out⟩, ⟨Sq.B HB⟩⟩
            case round =>
              clear HS HB
              obtain ⟨j, hj, hg, rfl, HS, HB⟩ := hrel
              by_cases hlt : j < m
              · have hltz : (j : Int) < (m : Int) := by omega
                have HLT := Aside0.mk hlt
                have HLL := Aside0.mk (show (impl_HeavyPlan.lines codes n j).length ≤ 1000 by have := HM.out; rw [impl_HeavyPlan.lines_len]; omega)
                have HLJ := Aside0.mk (show impl_HeavyPlan.lines codes n (j + 1) = impl_HeavyPlan.lines codes n j ++ [impl_HeavyPlan.line codes n (j : Int)] from rfl)
                generalize impl_HeavyPlan.lines codes n j = P at HS HLL HLJ
                clear hlt hj
                go_wp2_with ((with_reducible refine gate_dst (N := 37) rfl ?_); refine Kd.R_lit (Kd.int .i64) _ 3 ?hg (N := 37) ?hd (xs := ([] : List Int)) (inner := []) (ok := fun _ => True) (okp := fun _ => True) ?hr ?hp (fun _ hk => hk) trivial (Below.refl _ _) (Nat.le_refl _) (by simp) ?_; (case hd => rfl); (case hg => rfl); (case hr => first | (go_simp; done) | (go_simp; rfl)); (case hp => exact (Reps.none _ _)); intro v37 w3 ho hb hg_ hnew_; clear hg_ hnew_; replace HS := Aside0.mk (Kd.S_elder' (by (with_reducible repeat (first | apply Kd.S_alloc | apply Kd.S_drewN | apply Kd.S_drew)); exact HS.out) (Kd.R_base ho) hb); have HO := Sq.L ho HB; replace HB := Sq.S HB hb; clear hb ho; refine Hid.out ?_)
                unfold Hid
                have hk3 : w3.cell? ⟨w.heap.size + 1, 0, none⟩ = some (.slice Ac codes.length cc) := (blk_cell ((HB.out.block _ HL1.out).trans HV1.out) 0).trans rfl
                obtain ⟨i0, hi0, _, _, _⟩ := info_parts info25
                have hcut := cut_to (P := Try.prog) 24 25 .i64 Try.underlying24 hi0 Ac codes.length cc (n : Int) HC.out.1 HC.out.2.1 HR1.out
                rw [Int.toNat_natCast] at hcut
                clear hi0
                go_wp2
                have HCUT := Aside0.mk hcut
                clear hk3 hcut
                go_loopg [9, 42] n (fun gg v9 v42 wq => ∃ i : Nat, i ≤ n ∧ n - i ≤ gg ∧ v42 = .int .i64 i ∧ Aside0 (Kd.S (Kd.slice 3 (Kd.int .i64)) 25 wq w1.heap.size (fun k => some k ≠ (v9 : Value).ownBlock) u7 P) ∧ Aside0 (Kd.R (Kd.int .i64) 3 wq w1.heap.size (fun _ => True) v9 (impl_HeavyPlan.line codes i (j : Int))) ∧ Aside0 (Below w1.heap.size w1 wq))
                case atStart => exact ⟨0, Nat.zero_le _, by omega, rfl, ⟨by (with_reducible repeat (first | apply Kd.S_alloc | apply Kd.S_drewN | apply Kd.S_drew)); exact Kd.S_mono HS.out (fun _ hk => hk.2)⟩, ⟨by (with_reducible repeat (first | apply Kd.R_alloc | apply Kd.R_drewN | apply Kd.R_drew)); exact HO.out⟩, ⟨Sq.B HB⟩⟩
                case round =>
                  clear HS HO HB
                  obtain ⟨i, hi, hgi, rfl, HS, HO, HB⟩ := hrel
                  by_cases hin : i < n
                  · have hN := Kd.N_below HN1.out HB.out
                    have hic : i < codes.length := by have := HC.out.2.1; have := HC.out.1; omega
                    have p : (0 : Int) ≤ (i : Int) := Int.natCast_nonneg _
                    have q : (i : Int) < (codes.length : Int) := by omega
                    have q2 : (i : Int) < ((n : Nat) : Int) := by omega
                    obtain ⟨adq, Aq, cq, eq, hx, hl, hCq⟩ := at_L2 (Kd.N_reads' hN).2.2 (i : Int) p q
                    cases eq
                    rw [Int.toNat_natCast] at hx
                    have hrow : rd_L2 codes (i : Int) = codes[i] := by
                      unfold rd_L2
                      rw [Int.toNat_natCast, List.getD_eq_getElem?_getD, List.getElem?_eq_getElem hic]
                      rfl
                    have hml : m ≤ codes[i].length := by
                      have hall := HC.out.2.2.2
                      rw [List.all_eq_true] at hall
                      refine of_decide_eq_true (hall codes[i] ?_)
                      rw [List.mem_take_iff_getElem]
                      exact ⟨i, by omega, rfl⟩
                    have hline : impl_HeavyPlan.line codes (i + 1) (j : Int) = impl_HeavyPlan.line codes i (j : Int) ++ [rd (rd_L2 codes (i : Int)) (j : Int)] := by
                      unfold impl_HeavyPlan.line
                      rw [List.take_add_one, List.getElem?_eq_getElem hic, List.map_append, hrow]
                      rfl
                    have HLI := Aside0.mk hline
                    have hlen : (impl_HeavyPlan.line codes i (j : Int)).length ≤ 1000002 := by
                      unfold impl_HeavyPlan.line
                      rw [List.length_map, List.length_take]
                      have := HC.out.2.2.1
                      omega
                    have HLEN := Aside0.mk hlen
                    rw [← hrow] at hml
                    clear hline hlen hrow hN
                    generalize impl_HeavyPlan.line codes i (j : Int) = y at HO HLI HLEN
                    generalize rd_L2 codes (i : Int) = row at hx hl hCq hml HLI
                    obtain ⟨ad2, e2, hx2⟩ := Kd.at_int hCq (j : Int) (Int.natCast_nonneg _) (by omega)
                    cases e2
                    rw [Int.toNat_natCast] at hx2
                    generalize rd row (j : Int) = g at hx2 HLI
                    have z0 : (0 ≤ (i : Int)) = True := eq_true p
                    have z1 : ((i : Int) < ((n : Nat) : Int)) = True := eq_true q2
                    have z2 : (0 ≤ (j : Int)) = True := eq_true (Int.natCast_nonneg _)
                    have z3 : ((j : Int) < (row.length : Int)) = True := eq_true (by omega)
                    have HIN := Aside0.mk hin
                    clear p q q2 hin hi hic hCq hl hml
                    obtain ⟨A9, c9, e9⟩ := Kd.R_slice HO.out
                    subst e9
                    go_wp2_with ((with_reducible refine gate_builtin (b := .append) (xs := #[.tmp 46, .tmp 51]) rfl ?_); at_builtin; refine Kd.R_append (Kd.int .i64) (w0 := w1) w1.heap.size rfl (.tmp 46) (.tmp 51) 25 3 (.int .i64 0) 8 rfl Try.underlying25 info3 rfl (by decide) (by omega) (.slice A9 y.length c9) y g [.int .i64 g] (fun _ => True) (fun _ => False) rfl rfl ?aP (fun _ hk => hk.elim) ?aF ?aO ?aB ?aS ?aL ?_; (case aP => exact rfl); (case aB => exact (Sq.B HB)); (case aF => exact (fun _ _ => trivial)); (case aO => exact (Sq.R HO)); (case aS => exact (below_size (Sq.B HB))); (case aL => have := HLEN.out; omega); intro v52 w4 ho hb hg2 hat; replace HS := Aside0.mk (Kd.S_after (ok := fun _ => True) (by (with_reducible repeat (first | apply Kd.S_alloc | apply Kd.S_drewN | apply Kd.S_drew)); exact Kd.S_mono HS.out (fun _ hk => ⟨trivial, hk⟩)) hg2 hat); replace HB := Aside0.mk hb; replace HO := Aside0.mk ho; clear ho hb hg2 hat)
                    go_roundg (n - (i + 1))
                    case measure => have := HIN.out; omega
                    case rel =>
                      rw [← HLI.out] at HO
                      have hin := HIN.out
                      have hcl := HC.out.2
                      exact ⟨i + 1, hin, Nat.le_refl _, congrArg (Value.int .i64) (show wrap64 ((i : Int) + 1) = ((i + 1 : Nat) : Int) from by unfold wrap64; omega), ⟨by (with_reducible repeat (first | apply Kd.S_alloc | apply Kd.S_drewN | apply Kd.S_drew)); exact Kd.S_mono HS.out (fun _ hk => hk.2)⟩, ⟨by (with_reducible repeat (first | apply Kd.R_alloc | apply Kd.R_drewN | apply Kd.R_drew)); exact HO.out⟩, ⟨Sq.B HB⟩⟩
                  · obtain rfl : n = i := by omega
                    clear hin hi hgi HCUT
                    generalize impl_HeavyPlan.line codes n (j : Int) = y at HO HLJ
                    obtain ⟨A9, c9, e9⟩ := Kd.R_slice HO.out
                    subst e9
                    go_wp2_with ((with_reducible refine gate_builtin (b := .append) (xs := #[.tmp 54, .tmp 56]) rfl ?_); at_builtin; refine Kd.S_append (Kd.slice 3 (Kd.int .i64)) (w0 := w1) w1.heap.size rfl (.tmp 54) (.tmp 56) 24 25 (.slice none 0 0) 24 rfl Try.underlying24 info25 rfl (by decide) (by omega) u7 P y [.slice A9 y.length c9] (fun _ => True) (fun k_ => some k_ = (.slice A9 y.length c9 : Value).ownBlock) rfl rfl ?aP (fun k_ hk_ => ((Kd.R_mono (ok' := fun k_ => True ∧ some k_ ≠ (u7 : Value).ownBlock) (Kd.R_apart' HO.out (Kd.S_typed HS.out) (by decide)) (fun k_ hk => ⟨trivial, hk.2⟩))).1 k_ hk_.symm) ?aF ?aO ?aB ?aS ?aL ?_; (case aP => exact Kd.M_row (Kd.R_mono (Kd.R_tight rfl (Kd.R_mono (ok' := fun k_ => True ∧ some k_ ≠ (u7 : Value).ownBlock) (Kd.R_apart' HO.out (Kd.S_typed HS.out) (by decide)) (fun k_ hk => ⟨trivial, hk.2⟩))) (fun _ h_ => h_))); (case aB => exact (Sq.B HB)); (case aF => exact (fun _ _ => trivial)); (case aO => exact (by (with_reducible repeat (first | apply Kd.S_alloc | apply Kd.S_drewN | apply Kd.S_drew)); exact Kd.S_mono HS.out (fun k_ hk => ⟨trivial, fun e_ => hk e_⟩))); (case aS => exact (below_size (Sq.B HB))); (case aL => have := HLL.out; omega); intro v57 w5 ho hb hg2 hat; replace HB := Aside0.mk hb; have HS5 := Aside0.mk ho; clear ho hb hg2 hat)
                    go_roundg (m - (j + 1))
                    case measure => have := HLT.out; omega
                    case rel =>
                      rw [← HLJ.out] at HS5
                      have hlt := HLT.out
                      have hm := HM.out
                      exact ⟨j + 1, hlt, Nat.le_refl _, congrArg (Value.int .i64) (show wrap64 ((j : Int) + 1) = ((j + 1 : Nat) : Int) from by unfold wrap64; omega), ⟨by (with_reducible repeat (first | apply Kd.S_alloc | apply Kd.S_drewN | apply Kd.S_drew)); exact HS5.out⟩, ⟨Sq.B HB⟩⟩
              · obtain rfl : j = m := by omega
                go_wp2
                go_ret2
                exact ⟨_, rfl, Kd.S_mono (Kd.S_lower (by (with_reducible repeat (first | apply Kd.S_alloc | apply Kd.S_drewN | apply Kd.S_drew)); exact HS.out) HB1.out.size) (fun _ _ => trivial), HB1.out.trans ⟨HB.out.os, HB.out.tape, HB.out.output, HB.out.size, fun k hk => HB.out.block k (Nat.lt_of_lt_of_le hk HB1.out.size)⟩⟩
        · rw [if_neg hc] at h; cases h
      · rw [if_neg hm] at h; cases h
    · rw [if_neg h0] at h; cases h

/-! ### spec_WeighingsNeeded: function 24 -/
def spec_WeighingsNeeded.f (k : Nat) (a0 : Int) : Option (Int × Bool) := (spec_l3Coins.f a0).bind fun t340 => (if t340 = true then ((spec_l3Needed.f k a0).bind fun t341 => (some (t341, true))) else (some (0, false)))
theorem spec_WeighingsNeeded.mono : ∀ a0 k, LeO (spec_WeighingsNeeded.f k a0) (spec_WeighingsNeeded.f (k + 1) a0) := by
  intro a0 k
  unfold spec_WeighingsNeeded.f
  repeat' first
      | (with_reducible exact spec_l3Needed.mono _ _)
      | (with_reducible exact LeO.refl _)
      | (with_reducible exact LeO.none _)
      | (with_reducible refine LeO.ite ?_ ?_)
      | (with_reducible refine LeO.bind ?_ (fun _ => ?_))
      | exact spec_l3Needed.mono _ _
      | exact LeO.none _
      | refine LeO.ite ?_ ?_
      | refine LeO.bind ?_ (fun _ => ?_)
set_option maxHeartbeats 8000000 in
set_option maxRecDepth 100000 in
theorem spec_WeighingsNeeded.calls (k : Nat) (a0 : Int) (r1 : Int) (r2 : Bool) (w : World) (h : spec_WeighingsNeeded.f k a0 = some (r1, r2)) :
    Calls Try.prog 24 #[.int .i64 a0] w fun e w' => e = .returned (.tuple #[.int .i64 r1, .bool r2]) ∧ Drawn0 w w' := by
  have H : ((spec_l3Coins.f a0).bind fun t340 => (if t340 = true then ((spec_l3Needed.f k a0).bind fun t341 => (some (t341, true))) else (some (0, false)))) = some (r1, r2) := h
  clear h
  replace H := Option.bind_eq_some_iff.mp H
  obtain ⟨t340, A20, H⟩ := H
  try dsimp only at H
  have A2 := Aside0.mk A20
  clear A20
  by_cases c3 : t340 = true
  · subst c3
    rw [if_pos rfl] at H
    replace H := Option.bind_eq_some_iff.mp H
    obtain ⟨t341, A40, H⟩ := H
    try dsimp only at H
    have A4 := Aside0.mk A40
    clear A40
    simp only [Option.some.injEq, Prod.mk.injEq] at H
    obtain ⟨rfl, rfl⟩ := H
    go_enter Try.func24, Try.ntmps24
    go_wp2_with (first | ((with_reducible refine gate_callee (f := 73) rfl ?_); refine goesL_ (some 5) rfl rfl Try.func73 (by kernel_rfl) rfl #[.int .i64 a0] rfl (by (try simp only [List.map_toArray, List.map_cons, List.map_nil]); first | done | rfl | (simp only [List.length_drop, List.length_take]; rfl)) ?_; (with_reducible refine (spec_l3Coins.calls a0 true _ A2.out).mono ?_); rintro e w' ⟨rfl, ⟨nd, rfl⟩⟩; refine ⟨_, rfl, ?_⟩) | ((with_reducible refine gate_callee (f := 83) rfl ?_); refine goesL_ (some 8) rfl rfl Try.func83 (by kernel_rfl) rfl #[.int .i64 a0] rfl (by (try simp only [List.map_toArray, List.map_cons, List.map_nil]); first | done | rfl | (simp only [List.length_drop, List.length_take]; rfl)) ?_; (with_reducible refine (spec_l3Needed.calls k a0 t341 _ A4.out).mono ?_); rintro e w' ⟨rfl, ⟨nd, rfl⟩⟩; refine ⟨_, rfl, ?_⟩))
    go_ret2
    exact ⟨by first | rfl | (simp; done) | (simp [*]; done), by repeat (first | exact Drawn0.refl _ | apply Drawn0.step)⟩
  · replace c3 := Bool.eq_false_iff.mpr c3
    subst c3
    rw [if_neg (show ¬ (false = true) by decide)] at H
    simp only [Option.some.injEq, Prod.mk.injEq] at H
    obtain ⟨rfl, rfl⟩ := H
    go_enter Try.func24, Try.ntmps24
    go_wp2_with (first | ((with_reducible refine gate_callee (f := 73) rfl ?_); refine goesL_ (some 5) rfl rfl Try.func73 (by kernel_rfl) rfl #[.int .i64 a0] rfl (by (try simp only [List.map_toArray, List.map_cons, List.map_nil]); first | done | rfl | (simp only [List.length_drop, List.length_take]; rfl)) ?_; (with_reducible refine (spec_l3Coins.calls a0 false _ A2.out).mono ?_); rintro e w' ⟨rfl, ⟨nd, rfl⟩⟩; refine ⟨_, rfl, ?_⟩))
    go_ret2
    exact ⟨by first | rfl | (simp; done) | (simp [*]; done), by repeat (first | exact Drawn0.refl _ | apply Drawn0.step)⟩

end Go.Proofs.Ytgnmomdgfamhnaa.PFnCoins
