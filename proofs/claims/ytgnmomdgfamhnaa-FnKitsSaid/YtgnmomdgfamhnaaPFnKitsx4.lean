-- Made by wip/pr.py of this repo over the kit's print (some contracts by hand).
import Derived.Test.YtgnmomdgfamhnaaSq
import Derived.Test.YtgnmomdgfamhnaaPFnKitsx0
import Derived.Test.YtgnmomdgfamhnaaPFnKitsx3
namespace Go.Proofs.Ytgnmomdgfamhnaa.PFnKits
open Go.RowKit Go.Proofs.YtgnmomdgfamhnaaW.PrintWords Go.Proofs.YtgnmomdgfamhnaaW.PrintLast Go.Proofs.YtgnmomdgfamhnaaW.PrintMore
attribute [local go_sem] max2_int min2_int max_two min_two max_three min_three max_four min_four   -- for this text's walks alone
set_option linter.unusedVariables false
set_option linter.unusedSimpArgs false

/-! ### impl_HowToWeigh: function 29 -/
/-- How many are not 0. -/
def impl_HowToWeigh.usedN (l : List Int) : Int := ((l.filter fun x => decide (x ≠ 0)).length : Int)
theorem impl_HowToWeigh.used_l0 (l : List Int) (hl : l.length < 4611686018427387904) : ∀ (d i : Nat) (m : Int), i + d = l.length → 0 ≤ m → m ≤ i → Ev (fun k => impl_usedOf.l0 k m l (l.length : Int) (i : Int)) (m + impl_HowToWeigh.usedN (l.drop i)) := by
  intro d
  induction d with
  | zero =>
    intro i m h h0 h1
    refine Ev.step (fun k => by rw [impl_usedOf.l0]) ?_
    simp only [if_neg (show ¬ (i : Int) < (l.length : Int) by omega)]
    rw [List.drop_eq_nil_of_le (by omega)]
    have : m + impl_HowToWeigh.usedN [] = m := by simp [impl_HowToWeigh.usedN]
    rw [this]
    exact Ev.now _
  | succ d ih =>
    intro i m h h0 h1
    have hi : i < l.length := by omega
    refine Ev.step (fun k => by rw [impl_usedOf.l0]) ?_
    have e : wrap64 ((i : Int) + 1) = ((i + 1 : Nat) : Int) := by unfold wrap64; omega
    have e2 : wrap64 (m + 1) = m + 1 := by unfold wrap64; omega
    have er : rd l (i : Int) = l[i] := by
      unfold rd
      rw [Int.toNat_natCast, List.getD_eq_getElem?_getD, List.getElem?_eq_getElem hi]
      rfl
    simp only [if_pos (show (i : Int) < (l.length : Int) by omega), if_pos (show 0 ≤ (i : Int) by omega), e, e2, er]
    rw [List.drop_eq_getElem_cons hi]
    by_cases hz : l[i] = 0
    · simp only [if_pos hz]
      have : impl_HowToWeigh.usedN (l[i] :: l.drop (i + 1)) = impl_HowToWeigh.usedN (l.drop (i + 1)) := by simp [impl_HowToWeigh.usedN, hz]
      rw [this]
      exact ih (i + 1) m (by omega) h0 (by omega)
    · simp only [if_neg hz]
      have : m + impl_HowToWeigh.usedN (l[i] :: l.drop (i + 1)) = m + 1 + impl_HowToWeigh.usedN (l.drop (i + 1)) := by
        unfold impl_HowToWeigh.usedN
        rw [List.filter_cons_of_pos (p := fun x => decide (x ≠ 0)) (by simpa using hz), List.length_cons]
        omega
      rw [this]
      exact ih (i + 1) (m + 1) (by omega) (by omega) (by omega)
theorem impl_HowToWeigh.used_ev (l : List Int) (hl : l.length < 4611686018427387904) : ∃ k, impl_usedOf.f k l = some (impl_HowToWeigh.usedN l) := by
  refine Ev.rounds ?_
  unfold impl_usedOf.f
  have h := impl_HowToWeigh.used_l0 l hl l.length 0 0 (by omega) (by omega) (by omega)
  rw [List.drop_zero, Int.zero_add] at h
  exact h
/-- What a round leaves as the best. -/
def impl_HowToWeigh.pick (n : Int) (best x : List Int) (sum : Int) : List Int := if sum = n ∧ (best.length = 0 ∨ impl_HowToWeigh.usedN x < impl_HowToWeigh.usedN best) then x else best
/-- What is known at each round. -/
structure impl_HowToWeigh.Inv (w : World) (A : Option Addr) (kit : List Int) (n : Int) (nb bb B : Nat) (best : List Int) (W : World) : Prop where
  bel : Below w.heap.size w W
  nB : W.cell? ⟨nb, 0, none⟩ = some (.int .i64 n)
  row : ∃ v, W.heap[bb]? = some (.cells #[v] 25 (0, 0)) ∧ Kd.R (Kd.int .i64) 3 W w.heap.size (fun k => k ≠ nb ∧ k ≠ bb ∧ ¬ impl_eachSigns.mine B k) v best
  len : best.length ≤ kit.length
  kit : Kd.C (Kd.int .i64) w A kit.length kit
theorem impl_HowToWeigh.Inv.step {w : World} {A : Option Addr} {kit : List Int} {n : Int} {nb bb B : Nat} {best : List Int} {W W2 : World} (h : impl_HowToWeigh.Inv w A kit n nb bb B best W) (hwb : w.heap.size ≤ B) (hnb : nb < B) (hbb : bb < B) (hb : Below B W W2) (hk : Kept W W2 (impl_eachSigns.mine B)) : impl_HowToWeigh.Inv w A kit n nb bb B best W2 := by
  obtain ⟨v, hv, hr⟩ := h.row
  refine ⟨h.bel.trans ⟨hb.os, hb.tape, hb.output, hb.size, fun k hk => hb.block k (by omega)⟩, cell_kept h.nB hk (by simp only [impl_eachSigns.mine]; omega), ⟨v, blk_kept hv hk (by simp only [impl_eachSigns.mine]; omega), Kd.R_kept hr hk (fun k hk => hk.2.2)⟩, h.len, h.kit⟩
set_option maxHeartbeats 8000000 in
set_option maxRecDepth 100000 in
theorem impl_HowToWeigh.tell (w : World) (A : Option Addr) (kit : List Int) (n : Int) (nb bb B : Nat) (hwb : w.heap.size ≤ bb) (hbb : bb < B) (hnb : nb < bb) (hlen : kit.length < 8796093022208)
    (best : List Int) (W : World) (vs : Value) (x : List Int) (sum : Int) (hi : impl_HowToWeigh.Inv w A kit n nb bb B best W) (hB : B + 6 ≤ W.heap.size) (hx : x.length = kit.length) (hr : Kd.R (Kd.int .i64) 3 W B (fun k => k = B + 3) vs x) :
    Calls Try.prog 88 #[vs, .int .i64 sum, .pointer (some ⟨nb, 0, none⟩), .pointer (some ⟨bb, 0, none⟩)] W fun e W' => e = .returned (.tuple #[]) ∧ impl_HowToWeigh.Inv w A kit n nb bb B (impl_HowToWeigh.pick n best x sum) W' ∧ Kept W W' (fun k => ¬ impl_eachSigns.mine B k) := by
  obtain ⟨As, cs, es⟩ := Kd.R_slice hr
  subst es
  obtain ⟨_, hcs, hcx⟩ := Kd.R_reads' hr
  obtain ⟨v, hv, hbr⟩ := hi.row
  obtain ⟨Ab, cb, eb⟩ := Kd.R_slice hbr
  subst eb
  obtain ⟨_, hcb, hcbx⟩ := Kd.R_reads' hbr
  have hn := hi.nB
  have hbc : W.cell? ⟨bb, 0, none⟩ = some (.slice Ab best.length cb) := (blk_cell hv 0).trans rfl
  have HI := Aside0.mk hi
  have HR := Aside0.mk hr
  have HBR := Aside0.mk hbr
  have HV := Aside0.mk hv
  have CX := Aside0.mk hcx
  have CB := Aside0.mk hcbx
  have HLX := Aside0.mk hx
  have HLB := Aside0.mk hi.len
  have HB6 := Aside0.mk hB
  have LX := Aside0.mk hcs
  have LB := Aside0.mk hcb
  clear hi hr hbr hv hcx hcbx hcs hcb hB hx
  by_cases c0 : sum = n
  · have c0b : (sum == n) = true := beq_iff_eq.2 c0
    by_cases hw : best.length = 0 ∨ impl_HowToWeigh.usedN x < impl_HowToWeigh.usedN best
    · have hp : impl_HowToWeigh.pick n best x sum = x := by unfold impl_HowToWeigh.pick; rw [if_pos ⟨c0, hw⟩]
      rw [hp]
      clear hp c0
      have key : ∀ (nq : Nat) (w8 w9 : World) (v8 : Value), Kd.R (Kd.int .i64) 3 w8 (W.drewN nq).heap.size (fun _ => True) v8 x → Below (W.drewN nq).heap.size (W.drewN nq) w8 → w9 = w8.setCell ⟨bb, 0, none⟩ v8 → impl_HowToWeigh.Inv w A kit n nb bb B x w9 ∧ Kept W w9 (fun k => ¬ impl_eachSigns.mine B k) := by
        intro nq w8 w9 v8 ho hb hw9
        have hW : (W.drewN nq).heap.size = W.heap.size := rfl
        have hb6 := HB6.out
        have hb0 : Below W.heap.size W w8 := (pw_below_drewN (Below.refl _ _) nq).trans hb
        have hk : Kept W w9 (fun k => k = bb) := by rw [hw9]; exact (Kept.of_below hb0 (fun k => k = bb)).setCell (p := ⟨bb, 0, none⟩) (.inl rfl) _
        have hbs := Kd.R_base ho
        refine ⟨⟨?_, cell_kept hn hk (show ¬ nb = bb by omega), ⟨v8, ?_, ?_⟩, by rw [HLX.out]; exact Nat.le_refl _, HI.out.kit⟩, hk.mono (fun k e => by subst e; simp only [impl_eachSigns.mine]; omega)⟩
        · rw [hw9]
          exact (HI.out.bel.trans ⟨hb0.os, hb0.tape, hb0.output, hb0.size, fun k hk => hb0.block k (by omega)⟩).setCell (p := ⟨bb, 0, none⟩) hwb _
        · rw [hw9]
          exact blk_put (blk_below HV.out hb0) 0 _ rfl
        · rw [hw9]
          refine Kd.R_far (Kd.R_reok rfl (Kd.R_lower ho (by rw [hW]; omega)) (fun k hk => ?_)) (p := ⟨bb, 0, none⟩) (fun k hk => hk.2.1) _
          have := hbs k hk
          rw [hW] at this
          exact ⟨by omega, by omega, by simp only [impl_eachSigns.mine]; omega⟩
      have KEY := Aside0.mk key
      clear key
      have hcl : slices_Clone_int_int.f x = some x := by unfold slices_Clone_int_int.f; rw [if_pos (by have := HLX.out; omega)]
      have HCL := Aside0.mk hcl
      clear hcl
      by_cases c1 : best.length = 0
      · have c1b : ((best.length : Int) == 0) = true := beq_iff_eq.2 (by omega)
        clear hw c1
        go_enter Try.func88, Try.ntmps88
        go_wp2
        repeat (go_quiet (fail); try go_wp2_with (first | (go_at_call 82; (with_reducible refine (slices_Clone_int_int.calls As cs x x _ (Sq.C (CX.out)) LX.out HCL.out).mono ?_); rintro e w8 ⟨v8, rfl, ho, hb⟩; have k8 : w8.cell? ⟨bb, 0, none⟩ = some (.slice Ab best.length cb) := ((blk_cell (blk_below (blk_drewN HV.out _) hb) 0).trans rfl); have f8 : w8.frozen? ⟨bb, 0, none⟩ = false := blk_frozen (blk_below (blk_drewN HV.out _) hb) 0; obtain ⟨A8, c8, e8⟩ := Kd.R_slice ho; subst e8; have HO := Aside0.mk ho; have HBB := Aside0.mk hb; clear ho hb) | ((with_reducible refine gate_store (t := 25) (p := 3) rfl ?_); refine store_event (t := 25) (p := 3) (v := ?vo_w9) (w1 := (w8.setCell ⟨bb, 0, none⟩ (.slice A8 x.length c8))) ?hg ?ho ?hn ?hr ?_; (case ho => rfl); (case hg => rfl); (case hn => rfl); (case hr => first | (go_simp; done) | (go_simp; rfl)); intro w9 hw9; have HK9 := Aside0.mk (KEY.out _ w8 w9 _ HO.out HBB.out hw9); clear hw9)))
        try go_wp2
        go_end0
        exact ⟨rfl, HK9.out.1, HK9.out.2⟩
      · have c1b : ((best.length : Int) == 0) = false := beq_eq_false_iff_ne.2 (by omega)
        have c2b : decide (impl_HowToWeigh.usedN x < impl_HowToWeigh.usedN best) = true := decide_eq_true (hw.resolve_left c1)
        clear hw c1
        obtain ⟨k1, hu1⟩ := impl_HowToWeigh.used_ev x (by have := HLX.out; omega)
        obtain ⟨k2, hu2⟩ := impl_HowToWeigh.used_ev best (by have := HLB.out; omega)
        have U1 := Aside0.mk hu1
        have U2 := Aside0.mk hu2
        clear hu1 hu2
        generalize impl_HowToWeigh.usedN x = u1 at *
        generalize impl_HowToWeigh.usedN best = u2 at *
        go_enter Try.func88, Try.ntmps88
        go_wp2
        repeat (go_quiet (first | (go_at_call 89; (with_reducible refine (impl_usedOf.calls k1 As cs x u1 _ (Sq.C (CX.out)) LX.out U1.out).mono ?_); rintro e w' ⟨rfl, ⟨nd, rfl⟩⟩; (try first | exact ⟨rfl, _, Sq.dd⟩ | exact ⟨rfl, _, Sq.de⟩)) | (go_at_call 89; (with_reducible refine (impl_usedOf.calls k2 Ab cb best u2 _ (Sq.C (CB.out)) LB.out U2.out).mono ?_); rintro e w' ⟨rfl, ⟨nd, rfl⟩⟩; (try first | exact ⟨rfl, _, Sq.dd⟩ | exact ⟨rfl, _, Sq.de⟩))); try go_wp2_with (first | (go_at_call 82; (with_reducible refine (slices_Clone_int_int.calls As cs x x _ (Sq.C (CX.out)) LX.out HCL.out).mono ?_); rintro e w8 ⟨v8, rfl, ho, hb⟩; have k8 : w8.cell? ⟨bb, 0, none⟩ = some (.slice Ab best.length cb) := ((blk_cell (blk_below (blk_drewN HV.out _) hb) 0).trans rfl); have f8 : w8.frozen? ⟨bb, 0, none⟩ = false := blk_frozen (blk_below (blk_drewN HV.out _) hb) 0; obtain ⟨A8, c8, e8⟩ := Kd.R_slice ho; subst e8; have HO := Aside0.mk ho; have HBB := Aside0.mk hb; clear ho hb) | ((with_reducible refine gate_store (t := 25) (p := 3) rfl ?_); refine store_event (t := 25) (p := 3) (v := ?vo_w9) (w1 := (w8.setCell ⟨bb, 0, none⟩ (.slice A8 x.length c8))) ?hg ?ho ?hn ?hr ?_; (case ho => rfl); (case hg => rfl); (case hn => rfl); (case hr => first | (go_simp; done) | (go_simp; rfl)); intro w9 hw9; have HK9 := Aside0.mk (KEY.out _ w8 w9 _ HO.out HBB.out hw9); clear hw9)))
        try go_wp2
        go_end0
        exact ⟨rfl, HK9.out.1, HK9.out.2⟩
    · have hp : impl_HowToWeigh.pick n best x sum = best := by unfold impl_HowToWeigh.pick; rw [if_neg (fun e => hw e.2)]
      rw [hp]
      clear hp c0
      have c1b : ((best.length : Int) == 0) = false := beq_eq_false_iff_ne.2 (fun e => hw (.inl (by omega)))
      have c2b : decide (impl_HowToWeigh.usedN x < impl_HowToWeigh.usedN best) = false := decide_eq_false (fun e => hw (.inr e))
      clear hw
      obtain ⟨k1, hu1⟩ := impl_HowToWeigh.used_ev x (by have := HLX.out; omega)
      obtain ⟨k2, hu2⟩ := impl_HowToWeigh.used_ev best (by have := HLB.out; omega)
      have U1 := Aside0.mk hu1
      have U2 := Aside0.mk hu2
      clear hu1 hu2
      generalize impl_HowToWeigh.usedN x = u1 at *
      generalize impl_HowToWeigh.usedN best = u2 at *
      go_enter Try.func88, Try.ntmps88
      go_wp2
      repeat (go_quiet (first | (go_at_call 89; (with_reducible refine (impl_usedOf.calls k1 As cs x u1 _ (Sq.C (CX.out)) LX.out U1.out).mono ?_); rintro e w' ⟨rfl, ⟨nd, rfl⟩⟩; (try first | exact ⟨rfl, _, Sq.dd⟩ | exact ⟨rfl, _, Sq.de⟩)) | (go_at_call 89; (with_reducible refine (impl_usedOf.calls k2 Ab cb best u2 _ (Sq.C (CB.out)) LB.out U2.out).mono ?_); rintro e w' ⟨rfl, ⟨nd, rfl⟩⟩; (try first | exact ⟨rfl, _, Sq.dd⟩ | exact ⟨rfl, _, Sq.de⟩))); try go_wp2)
      go_end0
      exact ⟨rfl, HI.out.step (by omega) (by omega) hbb (pw_below_drewN (Below.refl _ _) _) ((Kept.refl _ _).drewN _), (Kept.refl _ _).drewN _⟩
  · have c0b : (sum == n) = false := beq_eq_false_iff_ne.2 c0
    have hp : impl_HowToWeigh.pick n best x sum = best := by unfold impl_HowToWeigh.pick; rw [if_neg (fun e => c0 e.1)]
    rw [hp]
    clear hp
    go_enter Try.func88, Try.ntmps88
    go_wp2
    repeat (go_quiet (fail); try go_wp2)
    go_end0
    exact ⟨rfl, HI.out.step (by omega) (by omega) hbb (pw_below_drewN (Below.refl _ _) _) ((Kept.refl _ _).drewN _), (Kept.refl _ _).drewN _⟩
def impl_HowToWeigh.f (k : Nat) (l0 : List Int) (a1 : Int) : Option (List Int × Bool) := (impl_IsKit.f k l0).bind fun t1 => if t1 = true then (if a1 < 1 then some ([], false) else if l0.length < 8796093022208 then ((impl_eachSigns.eachG (fun best x sum => some (impl_HowToWeigh.pick a1 best x sum)) (-1) l0 [] 0 []).bind fun best => some (best, decide ((best.length : Int) > 0))) else none) else some ([], false)
theorem impl_HowToWeigh.mono : ∀ a0 a1 k, LeO (impl_HowToWeigh.f k a0 a1) (impl_HowToWeigh.f (k + 1) a0 a1) := by
  intro a0 a1 k
  unfold impl_HowToWeigh.f
  exact LeO.bind (impl_IsKit.mono _ _) (fun _ => LeO.refl _)
theorem impl_HowToWeigh.pick_len (n : Int) (best x : List Int) (sum : Int) (m : Nat) (h1 : best.length ≤ m) (h2 : x.length ≤ m) : (impl_HowToWeigh.pick n best x sum).length ≤ m := by
  unfold impl_HowToWeigh.pick
  split
  · exact h2
  · exact h1
theorem impl_HowToWeigh.three (w W : World) (nd : Nat) (o0 o1 o2 : Obj) (e : ((((w.alloc o0).drewN nd).alloc o1).alloc o2) = W) : W.heap.size = w.heap.size + 3 ∧ Below w.heap.size w W ∧ W.heap[w.heap.size]? = some o0 ∧ W.heap[w.heap.size + 1]? = some o1 ∧ W.heap[w.heap.size + 1 + 1]? = some o2 := by
  subst e
  obtain ⟨s1, h0⟩ := impl_eachSigns.sizes w o0 _ rfl
  obtain ⟨s2, h1⟩ := impl_eachSigns.sizes ((w.alloc o0).drewN nd) o1 _ s1
  obtain ⟨s3, h2⟩ := impl_eachSigns.sizes _ o2 _ s2
  exact ⟨s3, below_alloc (below_alloc (pw_below_drewN (below_alloc (Below.refl _ _) _) _) _) _, blk_alloc (blk_alloc (blk_drewN h0 _) _) _, blk_alloc h1 _, h2⟩
theorem impl_HowToWeigh.empty (w W : World) (nd : Nat) (a1 : Int) (o2 : Obj) (e : ((((w.alloc (.cells #[.int .i64 a1] 3)).drewN nd).alloc (.cells #[] 3)).alloc o2) = W) : Kd.R (Kd.int .i64) 3 W w.heap.size (fun k => k = w.heap.size + 1) (.slice (some ⟨w.heap.size + 1, 0, none⟩) 0 0) ([] : List Int) := by
  subst e
  have h := impl_eachSigns.row_new ((w.alloc (.cells #[.int .i64 a1] 3)).drewN nd) w.heap.size 0 (by show w.heap.size ≤ (w.alloc _).heap.size; rw [World.size_alloc]; omega) (by omega)
  have hs : ((w.alloc (.cells #[.int .i64 a1] 3)).drewN nd).heap.size = w.heap.size + 1 := World.size_alloc _ _
  rw [hs, show madeCells (Value.int .i64 0).cells (0 * 1) = #[] from by simp [madeCells]] at h
  exact Kd.R_alloc h _
set_option maxHeartbeats 8000000 in
set_option maxRecDepth 100000 in
theorem impl_HowToWeigh.calls (k : Nat) (A0 : Option Addr) (c0 : Nat) (l0 : List Int) (a1 : Int) (r1 : List Int) (r2 : Bool) (w : World) (hr0 : Kd.C (Kd.int .i64) w A0 l0.length l0) (hc0 : l0.length ≤ c0) (h : impl_HowToWeigh.f k l0 a1 = some (r1, r2)) :
    Calls Try.prog 29 #[.slice A0 l0.length c0, .int .i64 a1] w fun e w' => ∃ v0_ : Value, e = .returned (.tuple #[v0_, .bool r2]) ∧ Kd.R (Kd.int .i64) 3 w' w.heap.size (fun _ => True) v0_ r1 ∧ Below w.heap.size w w' := by
  have HR0 := Aside0.mk hr0
  have HC0 := Aside0.mk hc0
  have HB := Aside0.mk (Below.refl w.heap.size w)
  clear hr0 hc0
  unfold impl_HowToWeigh.f at h
  replace h := Option.bind_eq_some_iff.mp h
  obtain ⟨t1, hk, h⟩ := h
  have HK := Aside0.mk hk
  clear hk
  cases t1 with
  | false =>
    rw [if_neg (by simp)] at h
    simp only [Option.some.injEq, Prod.mk.injEq] at h
    obtain ⟨rfl, rfl⟩ := h
    go_enter Try.func29, Try.ntmps29
    go_wp2_with ((go_at_call 47; (with_reducible refine (impl_IsKit.calls k A0 c0 l0 _ _ (Sq.C (HR0.out)) HC0.out HK.out).mono ?_); rintro e w' ⟨rfl, ⟨nd, rfl⟩⟩))
    go_ret2
    exact ⟨_, rfl, Kd.R_nil _ _ _ _ _, Sq.B HB⟩
  | true =>
    rw [if_pos rfl] at h
    by_cases c1 : a1 < 1
    · rw [if_pos c1] at h
      have c1b : decide (a1 < 1) = true := decide_eq_true c1
      simp only [Option.some.injEq, Prod.mk.injEq] at h
      obtain ⟨rfl, rfl⟩ := h
      go_enter Try.func29, Try.ntmps29
      go_wp2_with ((go_at_call 47; (with_reducible refine (impl_IsKit.calls k A0 c0 l0 _ _ (Sq.C (HR0.out)) HC0.out HK.out).mono ?_); rintro e w' ⟨rfl, ⟨nd, rfl⟩⟩))
      go_ret2
      exact ⟨_, rfl, Kd.R_nil _ _ _ _ _, Sq.B HB⟩
    · rw [if_neg c1] at h
      have c1b : decide (a1 < 1) = false := decide_eq_false c1
      by_cases hl : l0.length < 8796093022208
      · rw [if_pos hl] at h
        obtain ⟨best, hg, h⟩ := Option.bind_eq_some_iff.mp h
        simp only [Option.some.injEq, Prod.mk.injEq] at h
        obtain ⟨rfl, rfl⟩ := h
        have HG := Aside0.mk hg
        have HL := Aside0.mk hl
        clear hg hl
        go_enter Try.func29, Try.ntmps29
        go_wp2_with (first | (go_at_call 47; (with_reducible refine (impl_IsKit.calls k A0 c0 l0 _ _ (Sq.C (HR0.out)) HC0.out HK.out).mono ?_); rintro e w' ⟨rfl, ⟨nd, rfl⟩⟩) | (go_at_call 78; refine Hid.out ?_))
        unfold Hid
        generalize hW : ((((w.alloc (.cells #[.int .i64 a1] 3)).drewN nd).alloc (.cells #[] 3)).alloc (.cells #[.slice (some ⟨w.heap.size + 1, 0, none⟩) 0 0] 25)) = W
        obtain ⟨z0, z1, z2, z3, z4⟩ := impl_HowToWeigh.three w W nd _ _ _ hW
        have hrow := impl_HowToWeigh.empty w W nd a1 _ hW
        clear hW
        have hinv : impl_HowToWeigh.Inv w A0 l0 a1 w.heap.size (w.heap.size + 1 + 1) W.heap.size [] W :=
          ⟨z1, (blk_cell z2 0).trans rfl, ⟨_, z4, Kd.R_mono hrow (fun k e => by subst e; rw [z0]; simp only [impl_eachSigns.mine]; omega)⟩, Nat.zero_le _, HR0.out⟩
        have HE := Aside0.mk (impl_eachSigns.each_calls (impl_HowToWeigh.Inv w A0 l0 a1 w.heap.size (w.heap.size + 1 + 1) W.heap.size) (fun best x sum => some (impl_HowToWeigh.pick a1 best x sum)) A0 c0 l0 (-1) 88 #[.pointer (some ⟨w.heap.size, 0, none⟩), .pointer (some ⟨w.heap.size + 1 + 1, 0, none⟩)] (by omega) (by omega) (by have := HL.out; omega) (enters_of (P := Try.prog) Try.func88 (by kernel_rfl) rfl) W
          (fun s W1 hi => Kd.Heap.C (Kd.heap_int .i64) (fun k hk => hi.bel.block k hk) hi.kit)
          (fun s W1 W2 hi hB hb hk => hi.step (by omega) (by omega) (by omega) hb hk)
          (fun vs s W1 x sum s' hi hB hx hr hs => by
            obtain rfl := Option.some.inj hs
            exact impl_HowToWeigh.tell w A0 l0 a1 w.heap.size (w.heap.size + 1 + 1) W.heap.size (by omega) (by omega) (by omega) HL.out s W1 vs x sum hi hB hx hr)
          [] best hinv HG.out)
        clear hinv hrow z0 z1 z2 z3 z4
        refine HE.out.mono ?_
        rintro e w1 ⟨rfl, hi⟩
        obtain ⟨v, hv, hr⟩ := hi.row
        obtain ⟨A2, c2, e2⟩ := Kd.R_slice hr
        subst e2
        have k2 : w1.cell? ⟨w.heap.size + 1 + 1, 0, none⟩ = some (.slice A2 best.length c2) := (blk_cell hv 0).trans rfl
        have HR := Aside0.mk hr
        have HB1 := Aside0.mk hi.bel
        clear hi hr hv HE
        go_wp2
        repeat (go_quiet (fail); try go_wp2)
        go_ret2
        exact ⟨.slice A2 best.length c2, by first | rfl | (simp; done), by (with_reducible repeat (first | apply Kd.R_alloc | apply Kd.R_drewN | apply Kd.R_drew)); exact Kd.R_mono HR.out (fun _ _ => trivial), by repeat (first | (with_reducible first | exact HB1.out | apply below_alloc | apply pw_below_drewN | apply below_drew1) | exact HB1.out)⟩
      · rw [if_neg hl] at h
        cases h

/-! ### spec_l1Own: function 109 -/
def spec_l1Own.f (l0 : List Int) : Option (List Int) := (some (([] : List Int) : List Int)).bind fun y168 => (if y168.length + l0.length < 17592186044416 then (some (y168 ++ l0)) else (none))
set_option maxHeartbeats 8000000 in
set_option maxRecDepth 100000 in
theorem spec_l1Own.calls (A0 : Option Addr) (c0 : Nat) (l0 : List Int) (r : List Int) (w : World) (hr0 : Kd.C (Kd.int .i64) w A0 l0.length l0) (hc0 : l0.length ≤ c0) (h : spec_l1Own.f l0 = some r) :
    Calls Try.prog 109 #[.slice A0 l0.length c0] w fun e w' => ∃ v0_ : Value, e = .returned (v0_) ∧ Kd.R (Kd.int .i64) 3 w' w.heap.size (fun _ => True) v0_ r ∧ Below w.heap.size w w' := by
  have HR0 := Aside0.mk hr0
  have HC0 := Aside0.mk hc0
  clear hr0 hc0
  have HB := Aside0.mk (Below.refl w.heap.size w)
  have H : ((some (([] : List Int) : List Int)).bind fun y168 => (if y168.length + l0.length < 17592186044416 then (some (y168 ++ l0)) else (none))) = some r := h
  clear h
  obtain ⟨y168, hy168⟩ : ∃ y_ : List Int, y_ = (([] : List Int)) := ⟨_, rfl⟩
  replace H : (if y168.length + l0.length < 17592186044416 then (some (y168 ++ l0)) else (none)) = some r := by first | (rw [hy168]; with_reducible exact H) | (have H2_ := (Option.bind_some _ _).symm.trans H; rw [hy168]; with_reducible exact H2_) | (have H2_ := (Option.bind_some _ _).symm.trans H; with_reducible exact H2_) | with_reducible exact H | (rw [hy168]; exact H) | exact H
  have Ny168 := Aside0.mk hy168
  clear hy168
  by_cases c2 : y168.length + l0.length < 17592186044416
  · rw [if_pos c2] at H
    have LMc2 := Aside0.mk c2
    clear c2
    obtain ⟨y171, hy171⟩ : ∃ y_ : List Int, y_ = (y168 ++ l0) := ⟨_, rfl⟩
    replace H : (some y171) = some r := by first | (rw [hy171]; with_reducible exact H) | (have H2_ := (Option.bind_some _ _).symm.trans H; rw [hy171]; with_reducible exact H2_) | (have H2_ := (Option.bind_some _ _).symm.trans H; with_reducible exact H2_) | with_reducible exact H | (rw [hy171]; exact H) | exact H
    have Ny171 := Aside0.mk hy171
    clear hy171
    obtain rfl := Option.some.inj H
    go_enter Try.func109, Try.ntmps109
    go_wp2_with (first | ((with_reducible refine gate_dst (N := 3) rfl ?_); refine Kd.R_lit (Kd.int .i64) _ 3 ?hg (N := 3) ?hd (xs := ([] : List Int)) (inner := []) (ok := fun _ => True) (okp := fun _ => True) ?hr ?hp (fun _ hk => hk) trivial (Below.refl _ _) (Nat.le_refl _) (by simp) ?_; (case hd => rfl); (case hg => rfl); (case hr => first | (go_simp; done) | (go_simp; rfl)); (case hp => exact (Reps.none _ _)); intro v169 w3 ho4 hb hg_ hnew_; clear hg_ hnew_; (first | rw [← Ny168.out] at ho4 | (simp only [Int.reduceToNat] at ho4; rw [← Ny168.out] at ho4)); have n0_ := Sq.L ho4 HB; have n1_ := Sq.S HB hb; have HO170 := n0_; replace HB := n1_; clear n0_ n1_; clear hb ho4) | ((with_reducible refine gate_builtin (b := .append) (xs := #[.tmp 3, .tmp 4]) rfl ?_); at_builtin; refine Kd.R_append_rows (Kd.int .i64) (w0 := w) w.heap.size rfl (.tmp 3) (.tmp 4) 25 3 (.int .i64 0) 8 rfl Try.underlying25 info3 rfl (by decide) (by omega) v169 y168 l0 _ _ _ (fun _ => True) (fun _ => False) rfl rfl ?aO ?aR (fun _ _ h => h) (fun _ h => h.elim) ?aF ?aB ?aS ?aL ?_; (case aR => repeat (first | exact (Kd.C_below HR0.out HB.out) | (with_reducible refine Kd.C_alloc ?_ _) | (with_reducible refine Kd.C_drewN ?_ _) | (with_reducible refine Kd.C_drew ?_))); (case aB => exact (Sq.B HB)); (case aF => exact (fun _ _ => trivial)); (case aO => exact (Sq.R HO170)); (case aS => exact (below_size (Sq.B HB))); (case aL => have := LMc2.out; omega); intro v172 w5 ho hb hg hat; rw [← Ny171.out] at ho; have n0_ := Aside0.mk (hb); have n1_ := Aside0.mk (ho); clear HB; clear HO170; have HB := n0_; have HO173 := n1_; clear n0_ n1_; clear ho hb hg hat))
    go_ret
    exact ⟨_, by first | rfl | (simp [errW_none, errW_some] <;> rfl) | (simp [*, errW_none, errW_some] <;> rfl), by (with_reducible repeat (first | apply Kd.R_alloc | apply Kd.R_drewN | apply Kd.R_drew)); exact HO173.out, Sq.B HB⟩
  · rw [if_neg c2] at H
    exact absurd H (by simp)

/-! ### spec_l3All: function 84 -/
mutual
def spec_l3All.l0 : Nat → Int → List (List Int) → Int → Option ((List (List Int)))
  | 0, _, _, _ => none
  | k + 1, x0, x3, x4 => if x4 < x0 then (spec_l3All.l1 k x0 x3 x4 (([] : List (List Int))) 0) else (some x3)
def spec_l3All.l1 : Nat → Int → List (List Int) → Int → List (List Int) → Int → Option ((List (List Int)))
  | 0, _, _, _, _, _ => none
  | k + 1, x0, x3, x4, x5, x6 => if x6 < (x3.length : Int) then (spec_l3All.l2 k x0 x3 x4 x5 x6 (-1)) else (spec_l3All.l0 k x0 x5 (wrap64 (x4 + 1)))
def spec_l3All.l2 : Nat → Int → List (List Int) → Int → List (List Int) → Int → Int → Option ((List (List Int)))
  | 0, _, _, _, _, _, _ => none
  | k + 1, x0, x3, x4, x5, x6, x7 => if x7 ≤ 1 then (if 0 ≤ x6 then (if x6 < (x3.length : Int) then ((spec_l1Own.f (rd_L3 x3 x6)).bind fun t204 => (if t204.length < 17592186044416 then (if x5.length < 5864062014805 then (spec_l3All.l2 k x0 x3 x4 (x5 ++ [(t204 ++ [x7])]) x6 (wrap64 (x7 + 1))) else (none)) else (none))) else (none)) else (none)) else (spec_l3All.l1 k x0 x3 x4 x5 (wrap64 (x6 + 1)))
end
def spec_l3All.f (k : Nat) (a0 : Int) : Option ((List (List Int))) := spec_l3All.l0 k a0 (([(([] : List Int))] : List (List Int))) 0
theorem spec_l3All.mono_l : ∀ k, (∀ y0 y1 y2, LeO (spec_l3All.l0 k y0 y1 y2) (spec_l3All.l0 (k + 1) y0 y1 y2)) ∧ (∀ y0 y1 y2 y3 y4, LeO (spec_l3All.l1 k y0 y1 y2 y3 y4) (spec_l3All.l1 (k + 1) y0 y1 y2 y3 y4)) ∧ (∀ y0 y1 y2 y3 y4 y5, LeO (spec_l3All.l2 k y0 y1 y2 y3 y4 y5) (spec_l3All.l2 (k + 1) y0 y1 y2 y3 y4 y5))
  | 0 => ⟨fun _ _ _ r h => by simp [spec_l3All.l0] at h, fun _ _ _ _ _ r h => by simp [spec_l3All.l1] at h, fun _ _ _ _ _ _ r h => by simp [spec_l3All.l2] at h⟩
  | k + 1 => by
    obtain ⟨ih0, ih1, ih2⟩ := spec_l3All.mono_l k
    refine ⟨?_, ?_, ?_⟩
    · intro y0 y1 y2
      unfold spec_l3All.l0
      repeat' first
      | (with_reducible exact ih0 _ _ _)
      | (with_reducible exact ih1 _ _ _ _ _)
      | (with_reducible exact ih2 _ _ _ _ _ _)
      | (with_reducible exact LeO.refl _)
      | (with_reducible exact LeO.none _)
      | (with_reducible refine LeO.ite ?_ ?_)
      | (with_reducible refine LeO.bind ?_ (fun _ => ?_))
      | exact ih0 _ _ _
      | exact ih1 _ _ _ _ _
      | exact ih2 _ _ _ _ _ _
      | exact LeO.none _
      | refine LeO.ite ?_ ?_
      | refine LeO.bind ?_ (fun _ => ?_)
    · intro y0 y1 y2 y3 y4
      unfold spec_l3All.l1
      repeat' first
      | (with_reducible exact ih0 _ _ _)
      | (with_reducible exact ih1 _ _ _ _ _)
      | (with_reducible exact ih2 _ _ _ _ _ _)
      | (with_reducible exact LeO.refl _)
      | (with_reducible exact LeO.none _)
      | (with_reducible refine LeO.ite ?_ ?_)
      | (with_reducible refine LeO.bind ?_ (fun _ => ?_))
      | exact ih0 _ _ _
      | exact ih1 _ _ _ _ _
      | exact ih2 _ _ _ _ _ _
      | exact LeO.none _
      | refine LeO.ite ?_ ?_
      | refine LeO.bind ?_ (fun _ => ?_)
    · intro y0 y1 y2 y3 y4 y5
      unfold spec_l3All.l2
      repeat' first
      | (with_reducible exact ih0 _ _ _)
      | (with_reducible exact ih1 _ _ _ _ _)
      | (with_reducible exact ih2 _ _ _ _ _ _)
      | (with_reducible exact LeO.refl _)
      | (with_reducible exact LeO.none _)
      | (with_reducible refine LeO.ite ?_ ?_)
      | (with_reducible refine LeO.bind ?_ (fun _ => ?_))
      | exact ih0 _ _ _
      | exact ih1 _ _ _ _ _
      | exact ih2 _ _ _ _ _ _
      | exact LeO.none _
      | refine LeO.ite ?_ ?_
      | refine LeO.bind ?_ (fun _ => ?_)
theorem spec_l3All.mono : ∀ a0 k, LeO (spec_l3All.f k a0) (spec_l3All.f (k + 1) a0) := by
  intro a0 k
  obtain ⟨ih0, ih1, ih2⟩ := spec_l3All.mono_l k
  unfold spec_l3All.f
  repeat' first
      | (with_reducible exact ih0 _ _ _)
      | (with_reducible exact ih1 _ _ _ _ _)
      | (with_reducible exact ih2 _ _ _ _ _ _)
      | (with_reducible exact LeO.refl _)
      | (with_reducible exact LeO.none _)
      | (with_reducible refine LeO.ite ?_ ?_)
      | (with_reducible refine LeO.bind ?_ (fun _ => ?_))
      | exact ih0 _ _ _
      | exact ih1 _ _ _ _ _
      | exact ih2 _ _ _ _ _ _
      | exact LeO.none _
      | refine LeO.ite ?_ ?_
      | refine LeO.bind ?_ (fun _ => ?_)
set_option maxHeartbeats 8000000 in
set_option maxRecDepth 100000 in
theorem spec_l3All.calls (k : Nat) (a0 : Int) (r : List (List Int)) (w : World) (h : spec_l3All.f k a0 = some r) :
    Calls Try.prog 84 #[.int .i64 a0] w fun e w' => ∃ v0_ : Value, e = .returned (v0_) ∧ Kd.R (Kd.slice 3 (Kd.int .i64)) 25 w' w.heap.size (fun _ => True) v0_ r ∧ Below w.heap.size w w' := by
  have HB := Aside0.mk (Below.refl w.heap.size w)
  have H : (spec_l3All.l0 k a0 (([(([] : List Int))] : List (List Int))) 0) = some r := h
  clear h
  obtain ⟨y194, hy194⟩ : ∃ y_ : List Int, y_ = (([] : List Int)) := ⟨_, rfl⟩
  replace H : (spec_l3All.l0 k a0 (([y194] : List (List Int))) 0) = some r := by first | (rw [hy194]; with_reducible exact H) | (have H2_ := (Option.bind_some _ _).symm.trans H; rw [hy194]; with_reducible exact H2_) | (have H2_ := (Option.bind_some _ _).symm.trans H; with_reducible exact H2_) | with_reducible exact H | (rw [hy194]; exact H) | exact H
  have Ny194 := Aside0.mk hy194
  clear hy194
  obtain ⟨y197, hy197⟩ : ∃ y_ : List (List Int), y_ = (([y194] : List (List Int))) := ⟨_, rfl⟩
  replace H : (spec_l3All.l0 k a0 y197 0) = some r := by first | (rw [hy197]; with_reducible exact H) | (have H2_ := (Option.bind_some _ _).symm.trans H; rw [hy197]; with_reducible exact H2_) | (have H2_ := (Option.bind_some _ _).symm.trans H; with_reducible exact H2_) | with_reducible exact H | (rw [hy197]; exact H) | exact H
  have Ny197 := Aside0.mk hy197
  clear hy197
  have H' := Aside0.mk H
  clear H
  go_enter Try.func84, Try.ntmps84
  go_wp2_with (first | ((with_reducible refine gate_dst (N := 8) rfl ?_); refine Kd.R_lit (Kd.int .i64) _ 3 ?hg (N := 8) ?hd (xs := ([] : List Int)) (inner := []) (ok := fun _ => True) (okp := fun _ => True) ?hr ?hp (fun _ hk => hk) trivial (Below.refl _ _) (Nat.le_refl _) (by simp) ?_; (case hd => rfl); (case hg => rfl); (case hr => first | (go_simp; done) | (go_simp; rfl)); (case hp => exact (Reps.none _ _)); intro v195 w2 ho3 hb hg_ hnew_; clear hg_ hnew_; (first | rw [← Ny194.out] at ho3 | (simp only [Int.reduceToNat] at ho3; rw [← Ny194.out] at ho3)); have n0_ := Sq.L (Kd.R_newM (M := fun k_ => (w.heap.size ≤ k_)) ho3 (below_size (Sq.B HB)) (fun k_ h_ => h_)) HB; have n1_ := Sq.S HB hb; have HO196 := n0_; replace HB := n1_; clear n0_ n1_; clear hb ho3; obtain ⟨Ao4, co4, rfl⟩ := Kd.R_slice HO196.out) | ((with_reducible refine gate_dst (N := 9) rfl ?_); refine Kd.R_lit (Kd.slice 3 (Kd.int .i64)) w.heap.size 25 (w0 := w) ?hg (N := 9) ?hd (xs := ([y194] : List (List Int))) (inner := [.slice Ao4 y194.length co4]) (ok := (fun k_ => (w.heap.size ≤ k_))) (okp := (fun k_ => (w.heap.size ≤ k_))) ?hr ?hp (fun _ hk => hk) (Nat.le_trans (below_size (Sq.B HB)) (Nat.le_refl _)) (Sq.B HB) (below_size (Sq.B HB)) (by simp) ?_; (case hd => rfl); (case hg => rfl); (case hr => first | (go_simp; done) | (go_simp; rfl)); (case hp => exact (Reps.one (Kd.M_row (Kd.R_mono (ok' := (fun k_ => (w.heap.size ≤ k_))) HO196.out (fun k_ hk => hk.1))) (Reps.none _ _))); intro v198 w5 ho6 hb hg_ hnew_; clear hg_ hnew_; (first | rw [← Ny197.out] at ho6 | (simp only [Int.reduceToNat] at ho6; rw [← Ny197.out] at ho6)); have n0_ := Aside0.mk ho6; have n1_ := Aside0.mk hb; clear HB; clear HO196; have HO199 := n0_; have HB := n1_; clear n0_ n1_; clear hb ho6))
  go_loopg [3, 4] k (fun kq v3 v4 w' => ∃ (x3_1 : List (List Int)) (x4_1 : Int), v4 = .int .i64 x4_1 ∧ Aside0 (spec_l3All.l0 kq a0 x3_1 x4_1 = some r) ∧ Aside0 (kq ≤ k) ∧ Aside0 (Kd.R (Kd.slice 3 (Kd.int .i64)) 25 w' w.heap.size (fun k_ => (w.heap.size ≤ k_)) v3 x3_1) ∧ Aside0 (Below w.heap.size w w'))
  case atStart => exact ⟨(y197), (0), (by first | rfl | (simp; done) | (simp [*]; done)), H', ⟨Nat.le_refl _⟩, ⟨by (with_reducible repeat (first | apply Kd.R_alloc | apply Kd.R_drewN | apply Kd.R_drew)); exact HO199.out⟩, ⟨Sq.B HB⟩⟩
  case round =>
    clear H'
    try clear p2
    obtain ⟨x3_1, x4_1, rfl, HA, HK1, HO_3, HB⟩ := hrel
    cases gk with
    | zero => exact absurd HA.out (by simp [spec_l3All.l0])
    | succ k1 =>
      have H := HA.out
      clear HA
      simp only [spec_l3All.l0] at H
      by_cases c7 : x4_1 < a0
      · rw [if_pos c7] at H
        have c7b0 : decide (x4_1 < a0) = true := decide_eq_true c7
        clear c7
        obtain ⟨y200, hy200⟩ : ∃ y_ : List (List Int), y_ = (([] : List (List Int))) := ⟨_, rfl⟩
        replace H : (spec_l3All.l1 k1 a0 x3_1 x4_1 y200 0) = some r := by first | (rw [hy200]; with_reducible exact H) | (have H2_ := (Option.bind_some _ _).symm.trans H; rw [hy200]; with_reducible exact H2_) | (have H2_ := (Option.bind_some _ _).symm.trans H; with_reducible exact H2_) | with_reducible exact H | (rw [hy200]; exact H) | exact H
        have Ny200 := Aside0.mk hy200
        clear hy200
        have H' := Aside0.mk H
        clear H
        go_wp2_with (first | ((with_reducible refine gate_dst (N := 15) rfl ?_); refine Kd.R_lit (Kd.slice 3 (Kd.int .i64)) _ 25 ?hg (N := 15) ?hd (xs := ([] : List (List Int))) (inner := []) (ok := (fun k_ => (w.heap.size ≤ k_) ∧ some k_ ≠ (u3 : Value).ownBlock)) (okp := (fun k_ => (w.heap.size ≤ k_) ∧ some k_ ≠ (u3 : Value).ownBlock)) ?hr ?hp (fun _ hk => hk) ((show ∀ k_, wr.heap.size ≤ k_ → (fun k_ => (w.heap.size ≤ k_) ∧ some k_ ≠ (u3 : Value).ownBlock) k_ from fun k_ hk => ⟨(Nat.le_trans (below_size (Sq.B HB)) hk), Kd.fresh' (Sq.lt HO_3) k_ hk⟩) _ (Nat.le_refl _)) (Below.refl _ _) (Nat.le_refl _) (by simp) ?_; (case hd => rfl); (case hg => rfl); (case hr => first | (go_simp; done) | (go_simp; rfl)); (case hp => exact (Reps.none _ _)); intro v201 w8 ho9 hb hg_ hnew_; clear hg_ hnew_; (first | rw [← Ny200.out] at ho9 | (simp only [Int.reduceToNat] at ho9; rw [← Ny200.out] at ho9)); have n0_ := Sq.E HO_3 ho9 hb; have n1_ := Sq.L ho9 HB; have n2_ := Sq.S HB hb; replace HO_3 := n0_; have HO202 := n1_; replace HB := n2_; clear n0_ n1_ n2_; clear hb ho9))
        go_loopg [5, 6] k1 (fun kq v5 v6 w' => ∃ (x5_2 : List (List Int)) (x6_2 : Int), v6 = .int .i64 x6_2 ∧ Aside0 (spec_l3All.l1 kq a0 x3_1 x4_1 x5_2 x6_2 = some r) ∧ Aside0 (kq ≤ k1) ∧ Aside0 (Kd.R (Kd.slice 3 (Kd.int .i64)) 25 w' w.heap.size (fun k_ => (w.heap.size ≤ k_) ∧ some k_ ≠ (v5 : Value).ownBlock) u3 x3_1) ∧ Aside0 (Kd.R (Kd.slice 3 (Kd.int .i64)) 25 w' w.heap.size (fun k_ => (w.heap.size ≤ k_) ∧ some k_ ≠ (u3 : Value).ownBlock) v5 x5_2) ∧ Aside0 (Below w.heap.size w w'))
        case atStart => exact ⟨(y200), (0), (by first | rfl | (simp; done) | (simp [*]; done)), H', ⟨Nat.le_refl _⟩, ⟨by (with_reducible repeat (first | apply Kd.R_alloc | apply Kd.R_drewN | apply Kd.R_drew)); exact HO_3.out⟩, ⟨by (with_reducible repeat (first | apply Kd.R_alloc | apply Kd.R_drewN | apply Kd.R_drew)); exact HO202.out⟩, ⟨Sq.B HB⟩⟩
        case round =>
          clear H'
          try clear p2
          try clear c7
          try clear c7b0
          try clear c8
          try clear p2
          obtain ⟨x5_2, x6_2, rfl, HA, HK2, HO_3, HO_5, HB⟩ := hrel
          cases gk with
          | zero => exact absurd HA.out (by simp [spec_l3All.l1])
          | succ k2 =>
            have H := HA.out
            clear HA
            simp only [spec_l3All.l1] at H
            by_cases c10 : x6_2 < (x3_1.length : Int)
            · rw [if_pos c10] at H
              have c10b0 : decide (x6_2 < (x3_1.length : Int)) = true := decide_eq_true c10
              clear c10
              have H' := Aside0.mk H
              clear H
              obtain ⟨Ao11, co11, rfl⟩ := Kd.R_slice HO_3.out
              go_wp2
              go_loopg [5, 7] k2 (fun kq v5 v7 w' => ∃ (x5_3 : List (List Int)) (x7_3 : Int), v7 = .int .i64 x7_3 ∧ Aside0 (spec_l3All.l2 kq a0 x3_1 x4_1 x5_3 x6_2 x7_3 = some r) ∧ Aside0 (kq ≤ k2) ∧ Aside0 (Kd.R (Kd.slice 3 (Kd.int .i64)) 25 w' w.heap.size (fun k_ => (w.heap.size ≤ k_) ∧ some k_ ≠ (v5 : Value).ownBlock) (.slice Ao11 x3_1.length co11) x3_1) ∧ Aside0 (Kd.R (Kd.slice 3 (Kd.int .i64)) 25 w' w.heap.size (fun k_ => (w.heap.size ≤ k_) ∧ some k_ ≠ ((.slice Ao11 x3_1.length co11) : Value).ownBlock) v5 x5_3) ∧ Aside0 (Below w.heap.size w w'))
              case atStart => exact ⟨(x5_2), ((-1)), (by first | rfl | (simp; done) | (simp [*]; done)), H', ⟨Nat.le_refl _⟩, ⟨by (with_reducible repeat (first | apply Kd.R_alloc | apply Kd.R_drewN | apply Kd.R_drew)); exact HO_3.out⟩, ⟨by (with_reducible repeat (first | apply Kd.R_alloc | apply Kd.R_drewN | apply Kd.R_drew)); exact HO_5.out⟩, ⟨Sq.B HB⟩⟩
              case round =>
                clear H'
                try clear c1
                try clear p2
                try clear c7
                try clear c7b0
                try clear c8
                try clear c10
                try clear c10b0
                try clear p2
                obtain ⟨x5_3, x7_3, rfl, HA, HK3, HO_3, HO_5, HB⟩ := hrel
                cases gk with
                | zero => exact absurd HA.out (by simp [spec_l3All.l2])
                | succ k3 =>
                  have H := HA.out
                  clear HA
                  simp only [spec_l3All.l2] at H
                  by_cases c12 : x7_3 ≤ 1
                  · rw [if_pos c12] at H
                    have c12b0 : decide (x7_3 ≤ 1) = true := decide_eq_true c12
                    clear c12
                    by_cases c13 : 0 ≤ x6_2
                    · rw [if_pos c13] at H
                      have c13b0 : decide (0 ≤ x6_2) = true := decide_eq_true c13
                      clear c13
                      by_cases c14 : x6_2 < (x3_1.length : Int)
                      · rw [if_pos c14] at H
                        have c14b0 : decide (x6_2 < (x3_1.length : Int)) = true := decide_eq_true c14
                        clear c14
                        replace H := Option.bind_eq_some_iff.mp H
                        obtain ⟨t204, A150, H⟩ := H
                        try dsimp only at H
                        have A15 := Aside0.mk A150
                        clear A150
                        by_cases c16 : t204.length < 17592186044416
                        · rw [if_pos c16] at H
                          have LMc16 := Aside0.mk c16
                          clear c16
                          obtain ⟨y207, hy207⟩ : ∃ y_ : List Int, y_ = (t204 ++ [x7_3]) := ⟨_, rfl⟩
                          replace H : (if x5_3.length < 5864062014805 then (spec_l3All.l2 k3 a0 x3_1 x4_1 (x5_3 ++ [y207]) x6_2 (wrap64 (x7_3 + 1))) else (none)) = some r := by first | (rw [hy207]; with_reducible exact H) | (have H2_ := (Option.bind_some _ _).symm.trans H; rw [hy207]; with_reducible exact H2_) | (have H2_ := (Option.bind_some _ _).symm.trans H; with_reducible exact H2_) | with_reducible exact H | (rw [hy207]; exact H) | exact H
                          have Ny207 := Aside0.mk hy207
                          clear hy207
                          by_cases c17 : x5_3.length < 5864062014805
                          · rw [if_pos c17] at H
                            have LMc17 := Aside0.mk c17
                            clear c17
                            obtain ⟨y210, hy210⟩ : ∃ y_ : List (List Int), y_ = (x5_3 ++ [y207]) := ⟨_, rfl⟩
                            replace H : (spec_l3All.l2 k3 a0 x3_1 x4_1 y210 x6_2 (wrap64 (x7_3 + 1))) = some r := by first | (rw [hy210]; with_reducible exact H) | (have H2_ := (Option.bind_some _ _).symm.trans H; rw [hy210]; with_reducible exact H2_) | (have H2_ := (Option.bind_some _ _).symm.trans H; with_reducible exact H2_) | with_reducible exact H | (rw [hy210]; exact H) | exact H
                            have Ny210 := Aside0.mk hy210
                            clear hy210
                            have H' := Aside0.mk H
                            clear H
                            have p203 : 0 ≤ (x6_2 : Int) := of_decide_eq_true (by first | (with_reducible assumption) | assumption)
                            have q203 : x6_2 < (x3_1.length : Int) := of_decide_eq_true (by first | (with_reducible assumption) | assumption)
                            obtain ⟨ad203, A203_0, c203_0, e203, hx203_0, hl203_0, hi203_0⟩ := at_L3 (Kd.R_reads' HO_3.out).2.2 x6_2 p203 q203
                            cases e203
                            obtain ⟨ce203, hce203, hMe203, hcc203⟩ := Kd.N_get (Kd.R_N HO_3.out) [] x6_2 p203 (by first | exact q203 | exact of_decide_eq_true (by first | (with_reducible assumption) | assumption) | (have e_ := (Kd.R_reads' HO_3.out).1; omega))
                            obtain ⟨ua203_0, uc203_0, rfl, ul203_0, ge203_0⟩ := Kd.FK_slice_open hMe203
                            have hv203_0 := hcc203 0 _ rfl
                            rw [Nat.add_zero, show ((Kd.slice 3 (Kd.int .i64))).sz = 1 from rfl, Nat.mul_one] at hv203_0
                            replace hv203_0 := Option.some.inj (hv203_0.symm.trans hx203_0)
                            injection hv203_0 with hva_ hvn_ hvc_
                            rw [hva_] at ge203_0
                            rw [hvc_] at ul203_0
                            have HL203_0 := Aside0.mk (show Kd.V (Kd.int .i64) 3 _ w.heap.size _ _ (rd_L3 x3_1 x6_2) from Kd.V_mk ul203_0 ge203_0)
                            clear hva_ hvn_ hvc_ ge203_0 ul203_0
                            clear hcc203 hce203
                            have HR203_0 := Aside0.mk hi203_0
                            have HC203_0 := Aside0.mk hl203_0
                            clear hi203_0 hl203_0
                            replace p203 := eq_true p203
                            replace q203 := eq_true q203
                            go_wp2_with (first | ((with_reducible refine gate_callee (f := 109) rfl ?_); refine goesL_ (some 31) rfl rfl Try.func109 (by kernel_rfl) rfl #[.slice A203_0 (rd_L3 x3_1 x6_2).length c203_0] rfl (by (try simp only [List.map_toArray, List.map_cons, List.map_nil]); first | done | rfl | (simp only [List.length_drop, List.length_take]; rfl)) ?_; (with_reducible refine (spec_l1Own.calls _ _ (rd_L3 x3_1 x6_2) t204 _ ?side1 ?side2 A15.out).mono ?_); (case side1 => repeat (first | exact (by repeat (first | (with_reducible exact HR203_0.out) | (with_reducible refine Kd.C_alloc ?_ _) | (with_reducible refine Kd.C_drewN ?_ _) | (with_reducible refine Kd.C_drew ?_) | exact HR203_0.out)) | (with_reducible refine Kd.C_alloc ?_ _) | (with_reducible refine Kd.C_drewN ?_ _) | (with_reducible refine Kd.C_drew ?_))); (case side2 => exact HC203_0.out); rintro e w18 ⟨v205, rfl, ho0, hb⟩; refine ⟨_, rfl, ?_⟩; have HO206 := Sq.L (Kd.R_newM (M := fun k_ => (w.heap.size ≤ k_)) ho0 (below_size (Sq.B HB)) (fun k_ h_ => h_)) HB; replace HO_3 := Sq.E HO_3 ho0 hb; replace HO_5 := Sq.E HO_5 ho0 hb; replace HL203_0 := Aside0.mk (Kd.V_elder' (by (with_reducible repeat (first | apply Kd.V_alloc | apply Kd.V_drewN | apply Kd.V_drew)); exact HL203_0.out) (Kd.R_base ho0) hb); replace HR203_0 := Aside0.mk (Kd.C_below (by repeat (first | (with_reducible exact HR203_0.out) | (with_reducible refine Kd.C_alloc ?_ _) | (with_reducible refine Kd.C_drewN ?_ _) | (with_reducible refine Kd.C_drew ?_) | exact HR203_0.out)) hb); replace HB := Sq.S HB hb; clear hb ho0) | ((with_reducible refine gate_builtin (b := .append) (xs := #[.tmp 31, .tmp 33]) rfl ?_); at_builtin; refine Kd.R_append (Kd.int .i64) (w0 := w) w.heap.size rfl (.tmp 31) (.tmp 33) 25 3 (.int .i64 0) 8 rfl Try.underlying25 info3 rfl (by decide) (by omega) v205 t204 x7_3 [.int .i64 x7_3] (fun k_ => (w.heap.size ≤ k_)) (fun _ => False) rfl rfl ?aP (fun _ hk => hk.elim) ?aF ?aO ?aB ?aS ?aL ?_; (case aP => exact rfl); (case aB => exact (Sq.B HB)); (case aF => exact (fun k_ hk => (Nat.le_trans (below_size (Sq.B HB)) hk))); (case aO => exact (by (with_reducible repeat (first | apply Kd.R_alloc | apply Kd.R_drewN | apply Kd.R_drew)); exact Kd.R_mono HO206.out (fun _ hk => hk.1))); (case aS => exact (below_size (Sq.B HB))); (case aL => have := LMc16.out; omega); intro v208 w19 ho hb hg hat; rw [← Ny207.out] at ho; have n0_ := Aside0.mk (Kd.R_after (ok := (fun k_ => (w.heap.size ≤ k_) ∧ some k_ ≠ (u5 : Value).ownBlock)) (Sq.R HO_3) hg hat); have n1_ := Aside0.mk (Kd.R_after (ok := (fun k_ => (w.heap.size ≤ k_) ∧ some k_ ≠ (.slice (some ad203) x3_1.length co11 : Value).ownBlock)) (Sq.R HO_5) hg hat); have n2_ := Aside0.mk (Kd.V_afterv (ok := (fun k_ => (w.heap.size ≤ k_) ∧ some k_ ≠ (.slice (some ad203) x3_1.length co11 : Value).ownBlock ∧ some k_ ≠ (u5 : Value).ownBlock)) (by (with_reducible repeat (first | apply Kd.V_alloc | apply Kd.V_drewN | apply Kd.V_drew)); exact Kd.V_mono HL203_0.out (fun _ hk => ⟨⟨hk.1.1.1, ⟨hk.1.2, hk.1.1.2⟩⟩, hk.2⟩)) hg hat); have n3_ := Aside0.mk (hb); have n4_ := Aside0.mk (ho); clear HO_3; clear HO_5; clear HL203_0; clear HB; clear HO206; have HO_3 := n0_; have HO_5 := n1_; have HL203_0 := n2_; have HB := n3_; have HO209 := n4_; clear n0_ n1_ n2_ n3_ n4_; clear ho hb hg hat; obtain ⟨Ao21, co21, rfl⟩ := Kd.R_slice HO209.out) | ((with_reducible refine gate_builtin (b := .append) (xs := #[.tmp 26, .tmp 35]) rfl ?_); at_builtin; refine Kd.R_append (Kd.slice 3 (Kd.int .i64)) (w0 := w) w.heap.size rfl (.tmp 26) (.tmp 35) 24 25 (.slice none 0 0) 24 rfl Try.underlying24 info25 rfl (by decide) (by omega) u5 x5_3 y207 [.slice Ao21 y207.length co21] (fun k_ => (w.heap.size ≤ k_) ∧ some k_ ≠ (.slice (some ad203) x3_1.length co11 : Value).ownBlock) (fun k_ => ((fun k_ => (w.heap.size ≤ k_) ∧ some k_ ≠ (.slice (some ad203) x3_1.length co11 : Value).ownBlock)) k_ ∧ some k_ ≠ (u5 : Value).ownBlock) rfl rfl ?aP (fun _ hk => hk) ?aF ?aO ?aB ?aS ?aL ?_; (case aP => exact (Kd.M_row (Kd.R_mono (ok' := (fun k_ => ((fun k_ => (w.heap.size ≤ k_) ∧ some k_ ≠ (.slice (some ad203) x3_1.length co11 : Value).ownBlock)) k_ ∧ some k_ ≠ (u5 : Value).ownBlock)) (Kd.R_apart' (Kd.R_apart' (HO209.out) (Kd.R_typed HO_3.out) (by decide)) (Kd.R_typed HO_5.out) (by decide)) (fun k_ hk => ⟨⟨hk.1.1, hk.1.2⟩, hk.2⟩)))); (case aB => exact (Sq.B HB)); (case aF => exact (fun k_ hk => ⟨(Nat.le_trans (below_size (Sq.B HB)) hk), Kd.fresh' (Sq.lt HO_3) k_ hk⟩)); (case aO => exact (by (with_reducible repeat (first | apply Kd.R_alloc | apply Kd.R_drewN | apply Kd.R_drew)); exact Kd.R_mono HO_5.out (fun _ hk => ⟨hk.1.1, hk.1.2⟩))); (case aS => exact (below_size (Sq.B HB))); (case aL => have := LMc17.out; omega); intro v211 w20 ho hb hg hat; rw [← Ny210.out] at ho; have n0_ := Aside0.mk (Kd.R_after (ok := (fun k_ => (w.heap.size ≤ k_) ∧ some k_ ≠ (.slice Ao21 y207.length co21 : Value).ownBlock)) (by (with_reducible repeat (first | apply Kd.R_alloc | apply Kd.R_drewN | apply Kd.R_drew)); exact Kd.R_mono HO_3.out (fun _ hk => ⟨⟨hk.1.1, hk.2⟩, hk.1.2⟩)) hg hat); have n1_ := Aside0.mk (Kd.V_afterv (ok := (fun k_ => (w.heap.size ≤ k_) ∧ some k_ ≠ (.slice (some ad203) x3_1.length co11 : Value).ownBlock ∧ some k_ ≠ (.slice Ao21 y207.length co21 : Value).ownBlock)) (by (with_reducible repeat (first | apply Kd.V_alloc | apply Kd.V_drewN | apply Kd.V_drew)); exact Kd.V_mono HL203_0.out (fun _ hk => ⟨⟨hk.1.1, ⟨hk.1.2.1, hk.2⟩⟩, hk.1.2.2⟩)) hg hat); have n2_ := Aside0.mk (hb); have n3_ := Aside0.mk (ho); clear HO_3; clear HL203_0; clear HB; clear HO_5; clear HO209; have HO_3 := n0_; have HL203_0 := n1_; have HB := n2_; have HO212 := n3_; clear n0_ n1_ n2_ n3_; clear ho hb hg hat))
                            go_roundg k3
                            case measure => have := HK1.out; have := HK2.out; have := HK3.out; omega
                            case rel => exact ⟨(y210), (wrap64 (x7_3 + 1)), (by first | rfl | (simp; done) | (simp [*]; done)), H', ⟨by have := HK1.out; have := HK2.out; have := HK3.out; omega⟩, ⟨Kd.R_mono (Sq.R HO_3) (fun _ hk => ⟨hk.1.1, hk.2⟩)⟩, ⟨by (with_reducible repeat (first | apply Kd.R_alloc | apply Kd.R_drewN | apply Kd.R_drew)); exact HO212.out⟩, ⟨Sq.B HB⟩⟩
                          · rw [if_neg c17] at H
                            exact absurd H (by simp)
                        · rw [if_neg c16] at H
                          exact absurd H (by simp)
                      · rw [if_neg c14] at H
                        exact absurd H (by simp)
                    · rw [if_neg c13] at H
                      exact absurd H (by simp)
                  · rw [if_neg c12] at H
                    have c12b0 : decide (x7_3 ≤ 1) = false := decide_eq_false c12
                    clear c12
                    have H' := Aside0.mk H
                    clear H
                    go_wp2
                    go_roundg k3
                    case measure => have := HK1.out; have := HK2.out; have := HK3.out; omega
                    case rel => exact ⟨(x5_3), (wrap64 (x6_2 + 1)), (by first | rfl | (simp; done) | (simp [*]; done)), H', ⟨by have := HK1.out; have := HK2.out; have := HK3.out; omega⟩, ⟨by (with_reducible repeat (first | apply Kd.R_alloc | apply Kd.R_drewN | apply Kd.R_drew)); exact HO_3.out⟩, ⟨by (with_reducible repeat (first | apply Kd.R_alloc | apply Kd.R_drewN | apply Kd.R_drew)); exact HO_5.out⟩, ⟨Sq.B HB⟩⟩
            · rw [if_neg c10] at H
              have c10b0 : decide (x6_2 < (x3_1.length : Int)) = false := decide_eq_false c10
              clear c10
              have H' := Aside0.mk H
              clear H
              obtain ⟨Ao22, co22, rfl⟩ := Kd.R_slice HO_3.out
              go_wp2
              go_roundg k2
              case measure => have := HK1.out; have := HK2.out; omega
              case rel => exact ⟨(x5_2), (wrap64 (x4_1 + 1)), (by first | rfl | (simp; done) | (simp [*]; done)), H', ⟨by have := HK1.out; have := HK2.out; omega⟩, ⟨Kd.R_mono (Sq.R HO_5) (fun _ hk => hk.1)⟩, ⟨Sq.B HB⟩⟩
      · rw [if_neg c7] at H
        have c7b0 : decide (x4_1 < a0) = false := decide_eq_false c7
        clear c7
        obtain rfl := Option.some.inj H
        go_wp2
        go_ret
        exact ⟨_, by first | rfl | (simp [errW_none, errW_some] <;> rfl) | (simp [*, errW_none, errW_some] <;> rfl), by (with_reducible repeat (first | apply Kd.R_alloc | apply Kd.R_drewN | apply Kd.R_drew)); exact Kd.R_mono HO_3.out (fun _ _ => trivial), Sq.B HB⟩

/-! ### spec_l1In: function 77 -/
def spec_l1In.f (a0 : Int) (a1 : Int) (a2 : Int) : Option (Bool) := if a0 ≥ a1 then (some (decide (a0 ≤ a2))) else (some false)
set_option maxHeartbeats 8000000 in
set_option maxRecDepth 100000 in
theorem spec_l1In.calls (a0 : Int) (a1 : Int) (a2 : Int) (r : Bool) (w : World) (h : spec_l1In.f a0 a1 a2 = some r) :
    Calls Try.prog 77 #[.int .i64 a0, .int .i64 a1, .int .i64 a2] w fun e w' => e = .returned (.bool r) ∧ Drawn0 w w' := by
  have H : (if a0 ≥ a1 then (some (decide (a0 ≤ a2))) else (some false)) = some r := h
  clear h
  by_cases c4 : a0 ≥ a1
  · rw [if_pos c4] at H
    have c4b0 : decide (a1 ≤ a0) = true := decide_eq_true c4
    clear c4
    obtain rfl := Option.some.inj H
    go_enter Try.func77, Try.ntmps77
    go_wp2
    go_ret
    exact ⟨by first | rfl | (simp; done) | (simp [*]; done), by repeat (first | exact Drawn0.refl _ | apply Drawn0.step)⟩
  · rw [if_neg c4] at H
    have c4b0 : decide (a1 ≤ a0) = false := decide_eq_false c4
    clear c4
    obtain rfl := Option.some.inj H
    go_enter Try.func77, Try.ntmps77
    go_wp2
    go_ret
    exact ⟨by first | rfl | (simp; done) | (simp [*]; done), by repeat (first | exact Drawn0.refl _ | apply Drawn0.step)⟩

/-! ### spec_l3Kit: function 90 -/
def spec_l3Kit.l0 : Nat → List Int → Int → Option (Bool)
  | 0, _, _ => none
  | k + 1, x0, x3 => if x3 < (x0.length : Int) then (if 0 ≤ x3 then ((spec_l1In.f (rd x0 x3) 1 99).bind fun t175 => (if t175 = true then (if x3 > 0 then (if 0 ≤ (wrap64 (x3 - 1)) then (if (wrap64 (x3 - 1)) < (x0.length : Int) then (if (rd x0 (wrap64 (x3 - 1))) > (rd x0 x3) then (some false) else (spec_l3Kit.l0 k x0 (wrap64 (x3 + 1)))) else (none)) else (none)) else (spec_l3Kit.l0 k x0 (wrap64 (x3 + 1)))) else (some false))) else (none)) else ((spec_l1In.f (x0.length : Int) 1 6).bind fun t178 => (some t178))
def spec_l3Kit.f (k : Nat) (l0 : List Int) : Option (Bool) := spec_l3Kit.l0 k l0 0
theorem spec_l3Kit.mono_l : ∀ k, (∀ y0 y1, LeO (spec_l3Kit.l0 k y0 y1) (spec_l3Kit.l0 (k + 1) y0 y1))
  | 0 => fun _ _ r h => by simp [spec_l3Kit.l0] at h
  | k + 1 => by
    have ih0 := spec_l3Kit.mono_l k
    · intro y0 y1
      unfold spec_l3Kit.l0
      repeat' first
      | (with_reducible exact ih0 _ _)
      | (with_reducible exact LeO.refl _)
      | (with_reducible exact LeO.none _)
      | (with_reducible refine LeO.ite ?_ ?_)
      | (with_reducible refine LeO.bind ?_ (fun _ => ?_))
      | exact ih0 _ _
      | exact LeO.none _
      | refine LeO.ite ?_ ?_
      | refine LeO.bind ?_ (fun _ => ?_)
theorem spec_l3Kit.mono : ∀ a0 k, LeO (spec_l3Kit.f k a0) (spec_l3Kit.f (k + 1) a0) := by
  intro a0 k
  have ih0 := spec_l3Kit.mono_l k
  unfold spec_l3Kit.f
  repeat' first
      | (with_reducible exact ih0 _ _)
      | (with_reducible exact LeO.refl _)
      | (with_reducible exact LeO.none _)
      | (with_reducible refine LeO.ite ?_ ?_)
      | (with_reducible refine LeO.bind ?_ (fun _ => ?_))
      | exact ih0 _ _
      | exact LeO.none _
      | refine LeO.ite ?_ ?_
      | refine LeO.bind ?_ (fun _ => ?_)
set_option maxHeartbeats 8000000 in
set_option maxRecDepth 100000 in
theorem spec_l3Kit.calls (k : Nat) (A0 : Option Addr) (c0 : Nat) (l0 : List Int) (r : Bool) (w : World) (hr0 : Kd.C (Kd.int .i64) w A0 l0.length l0) (hc0 : l0.length ≤ c0) (h : spec_l3Kit.f k l0 = some r) :
    Calls Try.prog 90 #[.slice A0 l0.length c0] w fun e w' => e = .returned (.bool r) ∧ Drawn0 w w' := by
  have HR0 := Aside0.mk hr0
  have HC0 := Aside0.mk hc0
  clear hr0 hc0
  have H : (spec_l3Kit.l0 k l0 0) = some r := h
  clear h
  have H' := Aside0.mk H
  clear H
  go_enter Try.func90, Try.ntmps90
  go_wp2
  repeat (go_quiet (fail); try go_wp2)
  go_loopg [3] k (fun kq v3 w' => ∃ (x3_1 : Int), v3 = .int .i64 x3_1 ∧ Aside0 (spec_l3Kit.l0 kq l0 x3_1 = some r) ∧ Aside0 (kq ≤ k) ∧ Drawn0 w w')
  case atStart => exact ⟨(0), (by first | rfl | (simp; done) | (simp [*]; done)), H', ⟨Nat.le_refl _⟩, by repeat (first | exact Drawn0.refl _ | apply Drawn0.step)⟩
  case round =>
    clear H'
    obtain ⟨x3_1, rfl, HA, HK1, ⟨m1, rfl⟩⟩ := hrel
    cases gk with
    | zero => exact absurd HA.out (by simp [spec_l3Kit.l0])
    | succ k1 =>
      have H := HA.out
      clear HA
      simp only [spec_l3Kit.l0] at H
      by_cases c2 : x3_1 < (l0.length : Int)
      · rw [if_pos c2] at H
        have c2b0 : decide (x3_1 < (l0.length : Int)) = true := decide_eq_true c2
        clear c2
        by_cases c3 : 0 ≤ x3_1
        · rw [if_pos c3] at H
          have c3b0 : decide (0 ≤ x3_1) = true := decide_eq_true c3
          clear c3
          replace H := Option.bind_eq_some_iff.mp H
          obtain ⟨t175, A40, H⟩ := H
          try dsimp only at H
          have A4 := Aside0.mk A40
          clear A40
          by_cases c5 : t175 = true
          · subst c5
            rw [if_pos rfl] at H
            by_cases c6 : x3_1 > 0
            · rw [if_pos c6] at H
              have c6b0 : decide (0 < x3_1) = true := decide_eq_true c6
              clear c6
              obtain ⟨ji7, hji7⟩ : ∃ j_ : Int, (wrap64 (x3_1 - 1)) = j_ := ⟨_, rfl⟩
              replace H : (if 0 ≤ (ji7) then (if (ji7) < (l0.length : Int) then (if (rd l0 (ji7)) > (rd l0 x3_1) then (some false) else (spec_l3Kit.l0 k1 l0 (wrap64 (x3_1 + 1)))) else (none)) else (none)) = some r := by first | (rw [hji7] at H; exact H) | (simp only [hji7] at H ⊢; exact H)
              (try rw [hji7] at A4)
              have hji7w : (IntKind.i64.wrap (x3_1 - 1)) = ji7 := (i64_w _).trans hji7
              by_cases c8 : 0 ≤ (ji7)
              · rw [if_pos c8] at H
                have c8b0 : decide (0 ≤ (ji7)) = true := decide_eq_true c8
                clear c8
                by_cases c9 : (ji7) < (l0.length : Int)
                · rw [if_pos c9] at H
                  have c9b0 : decide ((ji7) < (l0.length : Int)) = true := decide_eq_true c9
                  clear c9
                  by_cases c10 : (rd l0 (ji7)) > (rd l0 x3_1)
                  · rw [if_pos c10] at H
                    have c10b0 : decide ((rd l0 x3_1) < (rd l0 (ji7))) = true := decide_eq_true c10
                    clear c10
                    obtain rfl := Option.some.inj H
                    have p174 : 0 ≤ (x3_1 : Int) := of_decide_eq_true (by first | (with_reducible assumption) | assumption)
                    have q174 : x3_1 < (l0.length : Int) := of_decide_eq_true (by first | (with_reducible assumption) | assumption)
                    obtain ⟨ad174, e174, hx174_0⟩ := Kd.at_int HR0.out x3_1 p174 q174
                    cases e174
                    replace p174 := eq_true p174
                    replace q174 := eq_true q174
                    go_wp2_with (first | (go_at_call 77; (with_reducible refine (spec_l1In.calls (rd l0 x3_1) 1 99 true _ A4.out).mono ?_); rintro e w' ⟨rfl, ⟨nd, rfl⟩⟩; (try first | exact ⟨rfl, _, Sq.dd⟩ | exact ⟨rfl, _, Sq.de⟩); have p176 : 0 ≤ ((ji7) : Int) := of_decide_eq_true (by first | (with_reducible assumption) | assumption); have q176 : (ji7) < (l0.length : Int) := of_decide_eq_true (by first | (with_reducible assumption) | assumption); obtain ⟨ad176, e176, hx176_0⟩ := Kd.at_int HR0.out (ji7) p176 q176; obtain rfl : ad174 = ad176 := (by injection e176); replace p176 := eq_true p176; replace q176 := eq_true q176; have p177 : 0 ≤ (x3_1 : Int) := of_decide_eq_true (by first | (with_reducible assumption) | assumption); have q177 : x3_1 < (l0.length : Int) := of_decide_eq_true (by first | (with_reducible assumption) | assumption); obtain ⟨ad177, e177, hx177_0⟩ := Kd.at_int HR0.out x3_1 p177 q177; obtain rfl : ad174 = ad177 := (by injection e177); replace p177 := eq_true p177; replace q177 := eq_true q177))
                    repeat (go_quiet (first | (go_at_call 77; (with_reducible refine (spec_l1In.calls (rd l0 x3_1) 1 99 true _ A4.out).mono ?_); rintro e w' ⟨rfl, ⟨nd, rfl⟩⟩; (try first | exact ⟨rfl, _, Sq.dd⟩ | exact ⟨rfl, _, Sq.de⟩); have p176 : 0 ≤ ((ji7) : Int) := of_decide_eq_true (by first | (with_reducible assumption) | assumption); have q176 : (ji7) < (l0.length : Int) := of_decide_eq_true (by first | (with_reducible assumption) | assumption); obtain ⟨ad176, e176, hx176_0⟩ := Kd.at_int HR0.out (ji7) p176 q176; obtain rfl : ad174 = ad176 := (by injection e176); replace p176 := eq_true p176; replace q176 := eq_true q176; have p177 : 0 ≤ (x3_1 : Int) := of_decide_eq_true (by first | (with_reducible assumption) | assumption); have q177 : x3_1 < (l0.length : Int) := of_decide_eq_true (by first | (with_reducible assumption) | assumption); obtain ⟨ad177, e177, hx177_0⟩ := Kd.at_int HR0.out x3_1 p177 q177; obtain rfl : ad174 = ad177 := (by injection e177); replace p177 := eq_true p177; replace q177 := eq_true q177)); try go_wp2_with (first | (go_at_call 77; (with_reducible refine (spec_l1In.calls (rd l0 x3_1) 1 99 true _ A4.out).mono ?_); rintro e w' ⟨rfl, ⟨nd, rfl⟩⟩; (try first | exact ⟨rfl, _, Sq.dd⟩ | exact ⟨rfl, _, Sq.de⟩); have p176 : 0 ≤ ((ji7) : Int) := of_decide_eq_true (by first | (with_reducible assumption) | assumption); have q176 : (ji7) < (l0.length : Int) := of_decide_eq_true (by first | (with_reducible assumption) | assumption); obtain ⟨ad176, e176, hx176_0⟩ := Kd.at_int HR0.out (ji7) p176 q176; obtain rfl : ad174 = ad176 := (by injection e176); replace p176 := eq_true p176; replace q176 := eq_true q176; have p177 : 0 ≤ (x3_1 : Int) := of_decide_eq_true (by first | (with_reducible assumption) | assumption); have q177 : x3_1 < (l0.length : Int) := of_decide_eq_true (by first | (with_reducible assumption) | assumption); obtain ⟨ad177, e177, hx177_0⟩ := Kd.at_int HR0.out x3_1 p177 q177; obtain rfl : ad174 = ad177 := (by injection e177); replace p177 := eq_true p177; replace q177 := eq_true q177)))
                    go_ret
                    exact ⟨by first | rfl | (simp; done) | (simp only [← hji7] <;> (first | rfl | simp)) | (simp [*]; done), by repeat (first | exact Drawn0.refl _ | apply Drawn0.step)⟩
                  · rw [if_neg c10] at H
                    have c10b0 : decide ((rd l0 x3_1) < (rd l0 (ji7))) = false := decide_eq_false c10
                    clear c10
                    have H' := Aside0.mk H
                    clear H
                    have p174 : 0 ≤ (x3_1 : Int) := of_decide_eq_true (by first | (with_reducible assumption) | assumption)
                    have q174 : x3_1 < (l0.length : Int) := of_decide_eq_true (by first | (with_reducible assumption) | assumption)
                    obtain ⟨ad174, e174, hx174_0⟩ := Kd.at_int HR0.out x3_1 p174 q174
                    cases e174
                    replace p174 := eq_true p174
                    replace q174 := eq_true q174
                    go_wp2_with (first | (go_at_call 77; (with_reducible refine (spec_l1In.calls (rd l0 x3_1) 1 99 true _ A4.out).mono ?_); rintro e w' ⟨rfl, ⟨nd, rfl⟩⟩; (try first | exact ⟨rfl, _, Sq.dd⟩ | exact ⟨rfl, _, Sq.de⟩); have p176 : 0 ≤ ((ji7) : Int) := of_decide_eq_true (by first | (with_reducible assumption) | assumption); have q176 : (ji7) < (l0.length : Int) := of_decide_eq_true (by first | (with_reducible assumption) | assumption); obtain ⟨ad176, e176, hx176_0⟩ := Kd.at_int HR0.out (ji7) p176 q176; obtain rfl : ad174 = ad176 := (by injection e176); replace p176 := eq_true p176; replace q176 := eq_true q176; have p177 : 0 ≤ (x3_1 : Int) := of_decide_eq_true (by first | (with_reducible assumption) | assumption); have q177 : x3_1 < (l0.length : Int) := of_decide_eq_true (by first | (with_reducible assumption) | assumption); obtain ⟨ad177, e177, hx177_0⟩ := Kd.at_int HR0.out x3_1 p177 q177; obtain rfl : ad174 = ad177 := (by injection e177); replace p177 := eq_true p177; replace q177 := eq_true q177))
                    repeat (go_quiet (first | (go_at_call 77; (with_reducible refine (spec_l1In.calls (rd l0 x3_1) 1 99 true _ A4.out).mono ?_); rintro e w' ⟨rfl, ⟨nd, rfl⟩⟩; (try first | exact ⟨rfl, _, Sq.dd⟩ | exact ⟨rfl, _, Sq.de⟩); have p176 : 0 ≤ ((ji7) : Int) := of_decide_eq_true (by first | (with_reducible assumption) | assumption); have q176 : (ji7) < (l0.length : Int) := of_decide_eq_true (by first | (with_reducible assumption) | assumption); obtain ⟨ad176, e176, hx176_0⟩ := Kd.at_int HR0.out (ji7) p176 q176; obtain rfl : ad174 = ad176 := (by injection e176); replace p176 := eq_true p176; replace q176 := eq_true q176; have p177 : 0 ≤ (x3_1 : Int) := of_decide_eq_true (by first | (with_reducible assumption) | assumption); have q177 : x3_1 < (l0.length : Int) := of_decide_eq_true (by first | (with_reducible assumption) | assumption); obtain ⟨ad177, e177, hx177_0⟩ := Kd.at_int HR0.out x3_1 p177 q177; obtain rfl : ad174 = ad177 := (by injection e177); replace p177 := eq_true p177; replace q177 := eq_true q177)); try go_wp2_with (first | (go_at_call 77; (with_reducible refine (spec_l1In.calls (rd l0 x3_1) 1 99 true _ A4.out).mono ?_); rintro e w' ⟨rfl, ⟨nd, rfl⟩⟩; (try first | exact ⟨rfl, _, Sq.dd⟩ | exact ⟨rfl, _, Sq.de⟩); have p176 : 0 ≤ ((ji7) : Int) := of_decide_eq_true (by first | (with_reducible assumption) | assumption); have q176 : (ji7) < (l0.length : Int) := of_decide_eq_true (by first | (with_reducible assumption) | assumption); obtain ⟨ad176, e176, hx176_0⟩ := Kd.at_int HR0.out (ji7) p176 q176; obtain rfl : ad174 = ad176 := (by injection e176); replace p176 := eq_true p176; replace q176 := eq_true q176; have p177 : 0 ≤ (x3_1 : Int) := of_decide_eq_true (by first | (with_reducible assumption) | assumption); have q177 : x3_1 < (l0.length : Int) := of_decide_eq_true (by first | (with_reducible assumption) | assumption); obtain ⟨ad177, e177, hx177_0⟩ := Kd.at_int HR0.out x3_1 p177 q177; obtain rfl : ad174 = ad177 := (by injection e177); replace p177 := eq_true p177; replace q177 := eq_true q177)))
                    go_roundg k1
                    case measure => have := HK1.out; omega
                    case rel => exact ⟨(wrap64 (x3_1 + 1)), (by first | rfl | (simp; done) | (simp [*]; done)), H', ⟨by have := HK1.out; omega⟩, by repeat (first | exact Drawn0.refl _ | apply Drawn0.step)⟩
                · rw [if_neg c9] at H
                  exact absurd H (by simp)
              · rw [if_neg c8] at H
                exact absurd H (by simp)
            · rw [if_neg c6] at H
              have c6b0 : decide (0 < x3_1) = false := decide_eq_false c6
              clear c6
              have H' := Aside0.mk H
              clear H
              have p174 : 0 ≤ (x3_1 : Int) := of_decide_eq_true (by first | (with_reducible assumption) | assumption)
              have q174 : x3_1 < (l0.length : Int) := of_decide_eq_true (by first | (with_reducible assumption) | assumption)
              obtain ⟨ad174, e174, hx174_0⟩ := Kd.at_int HR0.out x3_1 p174 q174
              cases e174
              replace p174 := eq_true p174
              replace q174 := eq_true q174
              go_wp2_with (first | (go_at_call 77; (with_reducible refine (spec_l1In.calls (rd l0 x3_1) 1 99 true _ A4.out).mono ?_); rintro e w' ⟨rfl, ⟨nd, rfl⟩⟩; (try first | exact ⟨rfl, _, Sq.dd⟩ | exact ⟨rfl, _, Sq.de⟩)))
              repeat (go_quiet (first | (go_at_call 77; (with_reducible refine (spec_l1In.calls (rd l0 x3_1) 1 99 true _ A4.out).mono ?_); rintro e w' ⟨rfl, ⟨nd, rfl⟩⟩; (try first | exact ⟨rfl, _, Sq.dd⟩ | exact ⟨rfl, _, Sq.de⟩))); try go_wp2_with (first | (go_at_call 77; (with_reducible refine (spec_l1In.calls (rd l0 x3_1) 1 99 true _ A4.out).mono ?_); rintro e w' ⟨rfl, ⟨nd, rfl⟩⟩; (try first | exact ⟨rfl, _, Sq.dd⟩ | exact ⟨rfl, _, Sq.de⟩))))
              go_roundg k1
              case measure => have := HK1.out; omega
              case rel => exact ⟨(wrap64 (x3_1 + 1)), (by first | rfl | (simp; done) | (simp [*]; done)), H', ⟨by have := HK1.out; omega⟩, by repeat (first | exact Drawn0.refl _ | apply Drawn0.step)⟩
          · replace c5 := Bool.eq_false_iff.mpr c5
            subst c5
            rw [if_neg (show ¬ (false = true) by decide)] at H
            obtain rfl := Option.some.inj H
            have p174 : 0 ≤ (x3_1 : Int) := of_decide_eq_true (by first | (with_reducible assumption) | assumption)
            have q174 : x3_1 < (l0.length : Int) := of_decide_eq_true (by first | (with_reducible assumption) | assumption)
            obtain ⟨ad174, e174, hx174_0⟩ := Kd.at_int HR0.out x3_1 p174 q174
            cases e174
            replace p174 := eq_true p174
            replace q174 := eq_true q174
            go_wp2_with (first | (go_at_call 77; (with_reducible refine (spec_l1In.calls (rd l0 x3_1) 1 99 false _ A4.out).mono ?_); rintro e w' ⟨rfl, ⟨nd, rfl⟩⟩; (try first | exact ⟨rfl, _, Sq.dd⟩ | exact ⟨rfl, _, Sq.de⟩)))
            repeat (go_quiet (first | (go_at_call 77; (with_reducible refine (spec_l1In.calls (rd l0 x3_1) 1 99 false _ A4.out).mono ?_); rintro e w' ⟨rfl, ⟨nd, rfl⟩⟩; (try first | exact ⟨rfl, _, Sq.dd⟩ | exact ⟨rfl, _, Sq.de⟩))); try go_wp2_with (first | (go_at_call 77; (with_reducible refine (spec_l1In.calls (rd l0 x3_1) 1 99 false _ A4.out).mono ?_); rintro e w' ⟨rfl, ⟨nd, rfl⟩⟩; (try first | exact ⟨rfl, _, Sq.dd⟩ | exact ⟨rfl, _, Sq.de⟩))))
            go_ret
            exact ⟨by first | rfl | (simp; done) | (simp [*]; done), by repeat (first | exact Drawn0.refl _ | apply Drawn0.step)⟩
        · rw [if_neg c3] at H
          exact absurd H (by simp)
      · rw [if_neg c2] at H
        have c2b0 : decide (x3_1 < (l0.length : Int)) = false := decide_eq_false c2
        clear c2
        replace H := Option.bind_eq_some_iff.mp H
        obtain ⟨t178, A110, H⟩ := H
        try dsimp only at H
        have A11 := Aside0.mk A110
        clear A110
        obtain rfl := Option.some.inj H
        go_wp2_with (first | (go_at_call 77; (with_reducible refine (spec_l1In.calls (l0.length : Int) 1 6 t178 _ A11.out).mono ?_); rintro e w' ⟨rfl, ⟨nd, rfl⟩⟩; (try first | exact ⟨rfl, _, Sq.dd⟩ | exact ⟨rfl, _, Sq.de⟩)))
        repeat (go_quiet (first | (go_at_call 77; (with_reducible refine (spec_l1In.calls (l0.length : Int) 1 6 t178 _ A11.out).mono ?_); rintro e w' ⟨rfl, ⟨nd, rfl⟩⟩; (try first | exact ⟨rfl, _, Sq.dd⟩ | exact ⟨rfl, _, Sq.de⟩))); try go_wp2_with (first | (go_at_call 77; (with_reducible refine (spec_l1In.calls (l0.length : Int) 1 6 t178 _ A11.out).mono ?_); rintro e w' ⟨rfl, ⟨nd, rfl⟩⟩; (try first | exact ⟨rfl, _, Sq.dd⟩ | exact ⟨rfl, _, Sq.de⟩))))
        go_ret
        exact ⟨by first | rfl | (simp; done) | (simp [*]; done), by repeat (first | exact Drawn0.refl _ | apply Drawn0.step)⟩

/-! ### spec_l3Weigh: function 91 -/
def spec_l3Weigh.l0 : Nat → List Int → List Int → Int → Int → Int → Option (Int × Int)
  | 0, _, _, _, _, _ => none
  | k + 1, x0, x1, x6, x7, x8 => if x8 < (x0.length : Int) then (if 0 ≤ x8 then (if x8 < (x1.length : Int) then (spec_l3Weigh.l0 k x0 x1 (wrap64 (x6 + (wrap64 ((rd x0 x8) * (rd x1 x8))))) (wrap64 (x7 + (wrap64 ((rd x1 x8) * (rd x1 x8))))) (wrap64 (x8 + 1))) else (none)) else (none)) else (some (x6, x7))
def spec_l3Weigh.f (k : Nat) (l0 : List Int) (l1 : List Int) : Option (Int × Int) := spec_l3Weigh.l0 k l0 l1 0 0 0
theorem spec_l3Weigh.mono_l : ∀ k, (∀ y0 y1 y2 y3 y4, LeO (spec_l3Weigh.l0 k y0 y1 y2 y3 y4) (spec_l3Weigh.l0 (k + 1) y0 y1 y2 y3 y4))
  | 0 => fun _ _ _ _ _ r h => by simp [spec_l3Weigh.l0] at h
  | k + 1 => by
    have ih0 := spec_l3Weigh.mono_l k
    · intro y0 y1 y2 y3 y4
      unfold spec_l3Weigh.l0
      repeat' first
      | (with_reducible exact ih0 _ _ _ _ _)
      | (with_reducible exact LeO.refl _)
      | (with_reducible exact LeO.none _)
      | (with_reducible refine LeO.ite ?_ ?_)
      | (with_reducible refine LeO.bind ?_ (fun _ => ?_))
      | exact ih0 _ _ _ _ _
      | exact LeO.none _
      | refine LeO.ite ?_ ?_
      | refine LeO.bind ?_ (fun _ => ?_)
theorem spec_l3Weigh.mono : ∀ a0 a1 k, LeO (spec_l3Weigh.f k a0 a1) (spec_l3Weigh.f (k + 1) a0 a1) := by
  intro a0 a1 k
  have ih0 := spec_l3Weigh.mono_l k
  unfold spec_l3Weigh.f
  repeat' first
      | (with_reducible exact ih0 _ _ _ _ _)
      | (with_reducible exact LeO.refl _)
      | (with_reducible exact LeO.none _)
      | (with_reducible refine LeO.ite ?_ ?_)
      | (with_reducible refine LeO.bind ?_ (fun _ => ?_))
      | exact ih0 _ _ _ _ _
      | exact LeO.none _
      | refine LeO.ite ?_ ?_
      | refine LeO.bind ?_ (fun _ => ?_)
set_option maxHeartbeats 8000000 in
set_option maxRecDepth 100000 in
theorem spec_l3Weigh.calls (k : Nat) (A0 : Option Addr) (c0 : Nat) (l0 : List Int) (A1 : Option Addr) (c1 : Nat) (l1 : List Int) (r1 : Int) (r2 : Int) (w : World) (hr0 : Kd.C (Kd.int .i64) w A0 l0.length l0) (hc0 : l0.length ≤ c0) (hr1 : Kd.C (Kd.int .i64) w A1 l1.length l1) (hc1 : l1.length ≤ c1) (h : spec_l3Weigh.f k l0 l1 = some (r1, r2)) :
    Calls Try.prog 91 #[.slice A0 l0.length c0, .slice A1 l1.length c1] w fun e w' => e = .returned (.tuple #[.int .i64 r1, .int .i64 r2]) ∧ Drawn0 w w' := by
  have HR0 := Aside0.mk hr0
  have HC0 := Aside0.mk hc0
  clear hr0 hc0
  have HR1 := Aside0.mk hr1
  have HC1 := Aside0.mk hc1
  clear hr1 hc1
  have H : (spec_l3Weigh.l0 k l0 l1 0 0 0) = some (r1, r2) := h
  clear h
  have H' := Aside0.mk H
  clear H
  go_enter Try.func91, Try.ntmps91
  go_wp2
  repeat (go_quiet (fail); try go_wp2)
  go_loopg [6, 7, 8] k (fun kq v6 v7 v8 w' => ∃ (x6_1 : Int) (x7_1 : Int) (x8_1 : Int), v6 = .int .i64 x6_1 ∧ v7 = .int .i64 x7_1 ∧ v8 = .int .i64 x8_1 ∧ Aside0 (spec_l3Weigh.l0 kq l0 l1 x6_1 x7_1 x8_1 = some (r1, r2)) ∧ Aside0 (kq ≤ k) ∧ Drawn0 w w')
  case atStart => exact ⟨(0), (0), (0), (by first | rfl | (simp; done) | (simp [*]; done)), (by first | rfl | (simp; done) | (simp [*]; done)), (by first | rfl | (simp; done) | (simp [*]; done)), H', ⟨Nat.le_refl _⟩, by repeat (first | exact Drawn0.refl _ | apply Drawn0.step)⟩
  case round =>
    clear H'
    try clear c1
    try clear p2
    obtain ⟨x6_1, x7_1, x8_1, rfl, rfl, rfl, HA, HK1, ⟨m1, rfl⟩⟩ := hrel
    cases gk with
    | zero => exact absurd HA.out (by simp [spec_l3Weigh.l0])
    | succ k1 =>
      have H := HA.out
      clear HA
      simp only [spec_l3Weigh.l0] at H
      by_cases c3 : x8_1 < (l0.length : Int)
      · rw [if_pos c3] at H
        have c3b0 : decide (x8_1 < (l0.length : Int)) = true := decide_eq_true c3
        clear c3
        by_cases c4 : 0 ≤ x8_1
        · rw [if_pos c4] at H
          have c4b0 : decide (0 ≤ x8_1) = true := decide_eq_true c4
          clear c4
          by_cases c5 : x8_1 < (l1.length : Int)
          · rw [if_pos c5] at H
            have c5b0 : decide (x8_1 < (l1.length : Int)) = true := decide_eq_true c5
            clear c5
            have H' := Aside0.mk H
            clear H
            have p179 : 0 ≤ (x8_1 : Int) := of_decide_eq_true (by first | (with_reducible assumption) | assumption)
            have q179 : x8_1 < (l0.length : Int) := of_decide_eq_true (by first | (with_reducible assumption) | assumption)
            obtain ⟨ad179, e179, hx179_0⟩ := Kd.at_int HR0.out x8_1 p179 q179
            cases e179
            replace p179 := eq_true p179
            replace q179 := eq_true q179
            have p180 : 0 ≤ (x8_1 : Int) := of_decide_eq_true (by first | (with_reducible assumption) | assumption)
            have q180 : x8_1 < (l1.length : Int) := of_decide_eq_true (by first | (with_reducible assumption) | assumption)
            obtain ⟨ad180, e180, hx180_0⟩ := Kd.at_int HR1.out x8_1 p180 q180
            cases e180
            replace p180 := eq_true p180
            replace q180 := eq_true q180
            have p181 : 0 ≤ (x8_1 : Int) := of_decide_eq_true (by first | (with_reducible assumption) | assumption)
            have q181 : x8_1 < (l1.length : Int) := of_decide_eq_true (by first | (with_reducible assumption) | assumption)
            obtain ⟨ad181, e181, hx181_0⟩ := Kd.at_int HR1.out x8_1 p181 q181
            obtain rfl : ad180 = ad181 := (by injection e181)
            replace p181 := eq_true p181
            replace q181 := eq_true q181
            have p182 : 0 ≤ (x8_1 : Int) := of_decide_eq_true (by first | (with_reducible assumption) | assumption)
            have q182 : x8_1 < (l1.length : Int) := of_decide_eq_true (by first | (with_reducible assumption) | assumption)
            obtain ⟨ad182, e182, hx182_0⟩ := Kd.at_int HR1.out x8_1 p182 q182
            obtain rfl : ad180 = ad182 := (by injection e182)
            replace p182 := eq_true p182
            replace q182 := eq_true q182
            go_wp2
            repeat (go_quiet (fail); try go_wp2)
            go_roundg k1
            case measure => have := HK1.out; omega
            case rel => exact ⟨(wrap64 (x6_1 + (wrap64 ((rd l0 x8_1) * (rd l1 x8_1))))), (wrap64 (x7_1 + (wrap64 ((rd l1 x8_1) * (rd l1 x8_1))))), (wrap64 (x8_1 + 1)), (by first | rfl | (simp; done) | (simp [*]; done)), (by first | rfl | (simp; done) | (simp [*]; done)), (by first | rfl | (simp; done) | (simp [*]; done)), H', ⟨by have := HK1.out; omega⟩, by repeat (first | exact Drawn0.refl _ | apply Drawn0.step)⟩
          · rw [if_neg c5] at H
            exact absurd H (by simp)
        · rw [if_neg c4] at H
          exact absurd H (by simp)
      · rw [if_neg c3] at H
        have c3b0 : decide (x8_1 < (l0.length : Int)) = false := decide_eq_false c3
        clear c3
        simp only [Option.some.injEq, Prod.mk.injEq] at H
        obtain ⟨rfl, rfl⟩ := H
        go_wp2
        repeat (go_quiet (fail); try go_wp2)
        go_ret2
        exact ⟨by first | rfl | (simp; done) | (simp [*]; done), by repeat (first | exact Drawn0.refl _ | apply Drawn0.step)⟩

end Go.Proofs.Ytgnmomdgfamhnaa.PFnKits
