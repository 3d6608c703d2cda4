-- Made by wip/pr.py of this repo over the kit's print (some contracts by hand).
import Derived.Test.YtgnmomdgfamhnaaSq
import Derived.Test.YtgnmomdgfamhnaaPFnCoinsx0
namespace Go.Proofs.Ytgnmomdgfamhnaa.PFnCoins
open Go.RowKit Go.Proofs.YtgnmomdgfamhnaaW.PrintWords Go.Proofs.YtgnmomdgfamhnaaW.PrintLast Go.Proofs.YtgnmomdgfamhnaaW.PrintMore
attribute [local go_sem] max2_int min2_int max_two min_two max_three min_three max_four min_four   -- for this text's walks alone
set_option linter.unusedVariables false
set_option linter.unusedSimpArgs false

/-! ### impl_eachSigns: function 78 -/
namespace impl_eachSigns
/-- Signs from g on. -/
def upto (g : Int) : List Int := if g ≤ -1 then [-1, 0, 1] else if g = 0 then [0, 1] else if g = 1 then [1] else []
theorem upto_cons {g : Int} (h0 : -1 ≤ g) (h1 : g ≤ 1) : upto g = g :: upto (g + 1) := by
  rcases (show g = -1 ∨ g = 0 ∨ g = 1 by omega) with rfl | rfl | rfl <;> rfl
theorem upto_nil {g : Int} (h : 1 < g) : upto g = [] := by
  unfold upto
  rw [if_neg (by omega), if_neg (by omega), if_neg (by omega)]
/-- What is told of all signs, one behind the other. -/
def eachG {σ : Type} (tf : σ → List Int → Int → Option σ) (low : Int) : List Int → List Int → Int → σ → Option σ
  | [], pre, sum, s => tf s pre sum
  | x :: rest, pre, sum, s => (upto low).foldlM (fun s g => eachG tf low rest (pre ++ [g]) (wrap64 (sum + wrap64 (g * x))) s) s
def mine (B : Nat) (k : Nat) : Prop := B ≤ k ∧ k < B + 6
def captured (B : Nat) : Array Value := #[.pointer (some ⟨B, 0, none⟩), .pointer (some ⟨B + 2, 0, none⟩), .pointer (some ⟨B + 4, 0, none⟩), .pointer (some ⟨B + 1, 0, none⟩), .pointer (some ⟨B + 5, 0, none⟩)]
/-- The six blocks of a call. -/
structure Own (A : Option Addr) (ck : Nat) (kit : List Int) (low : Int) (tell : Value) (vs : Value) (B : Nat) (cur : List Int) (W : World) : Prop where
  kitB : W.cell? ⟨B, 0, none⟩ = some (.slice A kit.length ck)
  lowB : W.cell? ⟨B + 1, 0, none⟩ = some (.int .i64 low)
  tellB : W.cell? ⟨B + 2, 0, none⟩ = some tell
  signsB : W.cell? ⟨B + 4, 0, none⟩ = some vs
  fromB : W.cell? ⟨B + 5, 0, none⟩ = some (.func (.func 108) #[] (captured B))
  row : Kd.R (Kd.int .i64) 3 W B (fun k => k = B + 3) vs cur
  size : B + 6 ≤ W.heap.size
theorem Own.kept {A : Option Addr} {ck : Nat} {kit : List Int} {low : Int} {tell vs : Value} {B : Nat} {cur : List Int} {W W2 : World} (h : Own A ck kit low tell vs B cur W) (hk : Kept W W2 (fun k => ¬ mine B k)) : Own A ck kit low tell vs B cur W2 where
  kitB := cell_kept h.kitB hk (by simp only [mine, Classical.not_not]; omega)
  lowB := cell_kept h.lowB hk (by simp only [mine, Classical.not_not]; omega)
  tellB := cell_kept h.tellB hk (by simp only [mine, Classical.not_not]; omega)
  signsB := cell_kept h.signsB hk (by simp only [mine, Classical.not_not]; omega)
  fromB := cell_kept h.fromB hk (by simp only [mine, Classical.not_not]; omega)
  row := Kd.R_kept h.row hk (fun k e => by subst e; simp only [mine, Classical.not_not]; omega)
  size := Nat.le_trans h.size hk.1
theorem gate {P : Program} {args : Array Value} {w : World} {Q : Ending → World → Prop} (f : FuncId) (h : Calls P f args w Q) : Calls P f args w Q := h
set_option maxHeartbeats 8000000 in
set_option maxRecDepth 100000 in
theorem leaf {σ : Type} (I : σ → World → Prop) (tf : σ → List Int → Int → Option σ) (A : Option Addr) (ck : Nat) (kit : List Int) (low : Int) (tfn : FuncId) (caps : Array Value) (vs : Value) (B : Nat)
    (eg : Enters Try.prog tfn)
    (htell : ∀ (s : σ) (W : World) (x : List Int) (sum : Int) (s' : σ), I s W → B + 6 ≤ W.heap.size → x.length = kit.length → Kd.R (Kd.int .i64) 3 W B (fun k => k = B + 3) vs x → tf s x sum = some s' → Calls Try.prog tfn (#[vs, .int .i64 sum] ++ caps) W fun e W' => e = .returned (.tuple #[]) ∧ I s' W' ∧ Kept W W' (fun k => ¬ mine B k))
    (cur : List Int) (sum : Int) (s sf : σ) (W : World) (ho : Own A ck kit low (.func (.func tfn) #[] caps) vs B cur W) (hc : cur.length = kit.length) (hi : I s W) (h : tf s cur sum = some sf) :
    Calls Try.prog 108 (#[.int .i64 kit.length, .int .i64 sum] ++ captured B) W fun e W' => e = .returned (.tuple #[]) ∧ ∃ cur', Own A ck kit low (.func (.func tfn) #[] caps) vs B cur' W' ∧ cur'.length = kit.length ∧ cur'.take kit.length = cur.take kit.length ∧ I sf W' := by
  have HT := Aside0.mk (htell s W cur sum sf hi ho.size hc ho.row h)
  have HO := Aside0.mk ho
  have HC := Aside0.mk hc
  have h0 := ho.kitB
  have h1 := ho.tellB
  have h2 := ho.signsB
  clear htell hi h hc ho
  have eg2 : ∀ args w, (callFunc tfn args).run Try.prog w = .ok (.enter tfn args) w := fun args w => eg args w
  clear eg
  unfold captured
  go_enter Try.func108, Try.ntmps108
  go_wp2_with (((with_reducible refine gate tfn ?_); refine HT.out.mono ?_; rintro e w' ⟨rfl, hI, hk⟩; have HI := Aside0.mk hI; have HK := Aside0.mk hk; clear hI hk))
  (try simp only [Exit.inBlock, Exit.then]); refine bodyPost_ret (results_none rfl _ _ _) rfl ?_
  exact ⟨rfl, cur, HO.out.kept HK.out, HC.out, rfl, HI.out⟩

def T6 : Bool × List (List Nat × List Nat) := (true, [([], []), ([], []), ([1], [1]), ([], []), ([], []), ([], []), ([], []), ([5, 6], [5, 6]), ([7], [7]), ([4, 8], [4, 8]), ([3, 9], [3, 9]), ([0, 2, 10], [0, 2, 10])])
def B6 : List Nat := [0, 0, 2, 0, 0, 0, 0, 96, 224, 496, 1016, 2047]
theorem tab6 : rtab .any (opsOf Try.f108 6) = T6 := by kernel_rfl
theorem bits6 : waitsOk T6.2 B6 = true := by kernel_rfl
set_option maxHeartbeats 8000000 in
set_option maxRecDepth 100000 in
theorem branch {σ : Type} (I : σ → World → Prop) (tf : σ → List Int → Int → Option σ) (ad : Addr) (ck : Nat) (kit : List Int) (low : Int) (tell : Value) (vs : Value) (B : Nat) (hl0 : -1 ≤ low) (hl1 : low ≤ 2)
    (at_ : Nat) (x : Int) (hxk : ∀ (s : σ) (W : World), I s W → W.cell? (ad.add at_) = some (.int .i64 x))
    (hIo : ∀ (s : σ) (W W2 : World), I s W → B ≤ W.heap.size → Below B W W2 → Kept W W2 (mine B) → I s W2)
    (rest : List Int) (hat : at_ < kit.length) (hlen : kit.length ≤ 4611686018427387904)
    (hrec : ∀ (cur1 : List Int) (sum1 : Int) (s1 s2 : σ) (W1 : World), Own (some ad) ck kit low tell vs B cur1 W1 → cur1.length = kit.length → I s1 W1 → eachG tf low rest (cur1.take (at_ + 1)) sum1 s1 = some s2 → Calls Try.prog 108 (#[.int .i64 (wrap64 (at_ + 1)), .int .i64 sum1] ++ captured B) W1 fun e W' => e = .returned (.tuple #[]) ∧ ∃ cur', Own (some ad) ck kit low tell vs B cur' W' ∧ cur'.length = kit.length ∧ cur'.take (at_ + 1) = cur1.take (at_ + 1) ∧ I s2 W')
    (cur : List Int) (sum : Int) (s sf : σ) (W : World) (ho : Own (some ad) ck kit low tell vs B cur W) (hc : cur.length = kit.length) (hi : I s W) (h : eachG tf low (x :: rest) (cur.take at_) sum s = some sf) :
    Calls Try.prog 108 (#[.int .i64 at_, .int .i64 sum] ++ captured B) W fun e W' => e = .returned (.tuple #[]) ∧ ∃ cur', Own (some ad) ck kit low tell vs B cur' W' ∧ cur'.length = kit.length ∧ cur'.take at_ = cur.take at_ ∧ I sf W' := by
  have E79 := Aside0.mk (enters_of (P := Try.prog) Try.func108 (by kernel_rfl) rfl)
  obtain ⟨go, co, ev, gb, gl, cl, HG⟩ := Kd.R_form ho.row (by omega)
  obtain rfl : go = B + 3 := ho.row.1 go (by rw [ev]; rfl)
  rw [hc] at ev
  subst ev
  clear gb gl HG cl
  have hne : ((at_ : Int) == (kit.length : Int)) = false := beq_eq_false_iff_ne.2 (by omega)
  have H : (upto low).foldlM (fun s g => eachG tf low rest (cur.take at_ ++ [g]) (wrap64 (sum + wrap64 (g * x))) s) s = some sf := h
  clear h
  generalize hF : (fun s g => eachG tf low rest (cur.take at_ ++ [g]) (wrap64 (sum + wrap64 (g * x))) s) = F at H
  have HF := Aside0.mk hF
  clear hF
  have H' := Aside0.mk H
  have HO := Aside0.mk ho
  have HI := Aside0.mk hi
  have HC := Aside0.mk hc
  have HREC := Aside0.mk hrec
  have HIO := Aside0.mk hIo
  have h0 := ho.kitB
  have h1 := ho.lowB
  clear hi H hc ho hrec hIo
  unfold captured
  go_enter Try.func108, Try.ntmps108
  go_wp2
  go_loopg [9] 4 (fun gg v9 w' => ∃ (g : Int) (cur1 : List Int) (s1 : σ), v9 = .int .i64 g ∧ -1 ≤ g ∧ g ≤ 2 ∧ (2 - g).toNat < gg ∧ Aside0 (Own (some ad) ck kit low tell (.slice (some ⟨B + 3, 0, none⟩) kit.length co) B cur1 w') ∧ Aside0 (cur1.length = kit.length) ∧ Aside0 (cur1.take at_ = cur.take at_) ∧ Aside0 (I s1 w') ∧ Aside0 ((upto g).foldlM F s1 = some sf))
  case atStart => exact ⟨low, cur, s, rfl, hl0, hl1, by omega, HO, HC, ⟨rfl⟩, HI, H'⟩
  case round =>
    clear H' HI HO
    clear h0 h1
    obtain ⟨g, cur1, s1, rfl, g0, g1, hgg, HO, HC1, HT, HI, H'⟩ := hrel
    by_cases hg : g ≤ 1
    · have hle : decide (g ≤ 1) = true := decide_eq_true hg
      obtain ⟨s2, A1, A2⟩ : ∃ s2, F s1 g = some s2 ∧ (upto (g + 1)).foldlM F s2 = some sf := by
        have z := H'.out
        rw [upto_cons g0 hg, List.foldlM_cons] at z
        exact Option.bind_eq_some_iff.1 z
      clear H'
      rw [← HF.out] at A1
      have A1' := Aside0.mk A1
      have A2' := Aside0.mk A2
      clear A1 A2
      have p5 : (0 : Int) ≤ (at_ : Int) := Int.natCast_nonneg _
      have q5 : (at_ : Int) < ((kit.length : Int) : Int) := by omega
      have h2 := HO.out.signsB
      obtain ⟨hx5, hf5⟩ := Kd.R_celln 0 HO.out.row (at_ : Int) p5 q5
      have HP := Aside0.mk (Kd.R_putg HO.out.row (at_ : Int) g)
      rw [Int.toNat_natCast] at HP hx5 hf5
      replace p5 := eq_true p5
      replace q5 := eq_true q5
      have hb0 : B ≤ wr.heap.size := by have := HO.out.size; omega
      have HB0 := Aside0.mk hb0
      clear hb0
      go_wp2_with (first | ((with_reducible refine gate_store (t := 3) (p := 26) rfl ?_); refine store_event (t := 3) (p := 26) (v := ?vo_w9) (w1 := (wr.setCell ⟨B + 3, at_, none⟩ (.int .i64 g))) ?hg ?ho ?hn ?hr ?_; (case ho => rfl); (case hg => rfl); (case hn => rfl); (case hr => first | (go_simp; done) | (go_simp; rfl)); intro w9 hw; have HW := Aside0.mk hw; clear hw))
      have hgr : wr.grownBy w9 (some (B + 3)) := by rw [HW.out]; exact HP.out.2
      have hrow : Kd.R (Kd.int .i64) 3 w9 B (fun k => k = B + 3) (.slice (some ⟨B + 3, 0, none⟩) kit.length co) (cur1.set at_ g) := by rw [HW.out]; exact HP.out.1
      have hown : Own (some ad) ck kit low tell (.slice (some ⟨B + 3, 0, none⟩) kit.length co) B (cur1.set at_ g) w9 :=
        { kitB := cell_grown hgr HO.out.kitB (by simp), lowB := cell_grown hgr HO.out.lowB (by simp), tellB := cell_grown hgr HO.out.tellB (by simp), signsB := cell_grown hgr HO.out.signsB (by simp), fromB := cell_grown hgr HO.out.fromB (by simp), row := hrow, size := Nat.le_trans HO.out.size (Kept.of_grown hgr (Kept.refl wr (mine B)) (fun k e => .inl (by cases e; simp only [mine]; omega))).1 }
      have hi9 : I s1 w9 := HIO.out s1 wr w9 HI.out HB0.out (by rw [HW.out]; exact (Below.refl B wr).setCell (p := ⟨B + 3, at_, none⟩) (show B ≤ B + 3 by omega) _) (Kept.of_grown hgr (Kept.refl wr (mine B)) (fun k e => .inl (by cases e; simp only [mine]; omega)))
      have hown' : Own (some ad) ck kit low tell (.slice (some ⟨B + 3, 0, none⟩) kit.length co) B (cur1.set at_ g) w9.drew := hown.kept ((Kept.refl _ _).drew)
      have hi' : I s1 w9.drew := HIO.out s1 w9 w9.drew hi9 (by have := hown.size; omega) (below_drew (Below.refl _ _)) ((Kept.refl _ _).drew)
      clear hi9 hown hrow hgr HP HW HO HI
      have HF5 := Aside0.mk (show Own (some ad) ck kit low tell (.slice (some ⟨B + 3, 0, none⟩) kit.length co) B (cur1.set at_ g) w9.drew from hown')
      have hset : (cur1.set at_ g).take (at_ + 1) = cur.take at_ ++ [g] := by
        rw [← HT.out, List.take_add_one, List.take_set_of_le (Nat.le_refl _), List.getElem?_set_self (by rw [HC1.out]; exact hat)]; rfl
      have HCALL := Aside0.mk (HREC.out (cur1.set at_ g) (wrap64 (sum + wrap64 (g * x))) s1 s2 w9.drew hown' (by rw [List.length_set]; exact HC1.out) hi' (by rw [hset]; exact A1'.out))
      have k0 := hown'.fromB
      have k1 := hown'.kitB
      have k2 := hxk s1 w9.drew hi'
      clear hown' hi'
      refine start_ (n := 12) (S := fun w' => w'.cell? ⟨B + 5, 0, none⟩ = some (.func (.func 108) #[] (captured B)) ∧ w'.cell? ⟨B, 0, none⟩ = some (.slice (some ad) kit.length ck) ∧ w'.cell? (ad.add at_) = some (.int .i64 x)) (ds := []) #[false, false, false, false, false, false, false, false, false, false, false, false] (by kernel_rfl) rfl rfl ⟨k0, k1, k2⟩ (fun hHeld => ?_); refine with_tabW tab6 bits6 (fun HT_ HW_ => ?_)
      clear k0 k1 k2
      generalize w9.drew = w10 at HCALL HF5 hHeld ⊢
      refine pure_ (i := 1) (N := some 28) (v := ?_) (a' := ?_) #[false, true, false, false, false, false, false, false, false, false, false, false] rfl rfl (any_of HT_.out (by kernel_rfl)) (fun _ _ _ h => h) (Or.inl ⟨by rfl, ?_⟩) ?_ ?_
      rotate_left
      · intro w'
        go_simp
        with_reducible rfl
      rotate_left
      · simp only [Act.put, List.setIfInBounds_toArray, List.set_cons_zero, List.set_cons_succ, i64_w, i32_w]
        rfl
      refine pure_ (i := 2) (N := some 29) (v := ?_) (a' := ?_) #[false, true, true, false, false, false, false, false, false, false, false, false] rfl rfl (any_of HT_.out (by kernel_rfl)) (fun _ _ _ h => h) (Or.inl ⟨by rfl, ?_⟩) ?_ ?_
      rotate_left
      · intro w'
        go_simp
        with_reducible rfl
      rotate_left
      · simp only [Act.put, List.setIfInBounds_toArray, List.set_cons_zero, List.set_cons_succ, i64_w, i32_w]
        rfl
      refine pure_ (i := 3) (N := some 30) (v := ?_) (a' := ?_) #[false, true, true, true, false, false, false, false, false, false, false, false] rfl rfl (any_of HT_.out (by kernel_rfl)) (fun _ _ _ h => h) (Or.inl ⟨by rfl, ?_⟩) ?_ ?_
      rotate_left
      · intro w'
        go_simp
        with_reducible rfl
      rotate_left
      · simp only [Act.put, List.setIfInBounds_toArray, List.set_cons_zero, List.set_cons_succ, i64_w, i32_w]
        rfl
      refine pure_ (i := 4) (N := some 31) (v := ?_) (a' := ?_) #[false, true, true, true, true, false, false, false, false, false, false, false] rfl rfl (any_of HT_.out (by kernel_rfl)) (fun _ _ _ h => h) (Or.inl ⟨by rfl, ?_⟩) ?_ ?_
      rotate_left
      · intro w'
        go_simp
        with_reducible rfl
      rotate_left
      · simp only [Act.put, List.setIfInBounds_toArray, List.set_cons_zero, List.set_cons_succ, i64_w, i32_w]
        rfl
      refine pure_ (i := 6) (N := some 33) (v := ?_) (a' := ?_) #[false, true, true, true, true, false, true, false, false, false, false, false] rfl rfl (any_of HT_.out (by kernel_rfl)) (fun _ _ _ h => h) (Or.inl ⟨by rfl, ?_⟩) ?_ ?_
      rotate_left
      · intro w'
        go_simp
        with_reducible rfl
      rotate_left
      · simp only [Act.put, List.setIfInBounds_toArray, List.set_cons_zero, List.set_cons_succ, i64_w, i32_w]
        rfl
      refine take_ (i := 0) (N := some 27) (v := ?_) (a' := ?_) #[true, true, true, true, true, false, true, false, false, false, false, false] rfl rfl (take_ofW HT_.out HW_.out (by kernel_rfl)) (fun _ _ _ h => h) (Or.inl ⟨by rfl, ?_⟩) hHeld ?_ ?_
      rotate_left
      · rintro w' ⟨s0, s1, s2⟩
        go_simp
        with_reducible rfl
      rotate_left
      · simp only [Act.put, List.setIfInBounds_toArray, List.set_cons_zero, List.set_cons_succ, i64_w, i32_w]
        rfl
      refine take_ (i := 5) (N := some 32) (v := ?_) (a' := ?_) #[true, true, true, true, true, true, true, false, false, false, false, false] rfl rfl (take_ofW HT_.out HW_.out (by kernel_rfl)) (fun _ _ _ h => h) (Or.inl ⟨by rfl, ?_⟩) hHeld ?_ ?_
      rotate_left
      · rintro w' ⟨s0, s1, s2⟩
        go_simp
        with_reducible rfl
      rotate_left
      · simp only [Act.put, List.setIfInBounds_toArray, List.set_cons_zero, List.set_cons_succ, i64_w, i32_w]
        rfl
      refine take_ (i := 7) (N := some 34) (v := ?_) (a' := ?_) #[true, true, true, true, true, true, true, true, false, false, false, false] rfl rfl (take_ofW HT_.out HW_.out (by kernel_rfl)) (fun _ _ _ h => h) (Or.inl ⟨by rfl, ?_⟩) hHeld ?_ ?_
      rotate_left
      · rintro w' ⟨s0, s1, s2⟩
        go_simp
        with_reducible rfl
      rotate_left
      · simp only [Act.put, List.setIfInBounds_toArray, List.set_cons_zero, List.set_cons_succ, i64_w, i32_w]
        rfl
      refine take_ (i := 8) (N := some 35) (v := ?_) (a' := ?_) #[true, true, true, true, true, true, true, true, true, false, false, false] rfl rfl (take_ofW HT_.out HW_.out (by kernel_rfl)) (fun _ _ _ h => h) (Or.inl ⟨by rfl, ?_⟩) hHeld ?_ ?_
      rotate_left
      · rintro w' ⟨s0, s1, s2⟩
        go_simp
        with_reducible rfl
      rotate_left
      · simp only [Act.put, List.setIfInBounds_toArray, List.set_cons_zero, List.set_cons_succ, i64_w, i32_w]
        rfl
      refine take_ (i := 9) (N := some 36) (v := ?_) (a' := ?_) #[true, true, true, true, true, true, true, true, true, true, false, false] rfl rfl (take_ofW HT_.out HW_.out (by kernel_rfl)) (fun _ _ _ h => h) (Or.inl ⟨by rfl, ?_⟩) hHeld ?_ ?_
      rotate_left
      · rintro w' ⟨s0, s1, s2⟩
        go_simp
        with_reducible rfl
      rotate_left
      · simp only [Act.put, List.setIfInBounds_toArray, List.set_cons_zero, List.set_cons_succ, i64_w, i32_w]
        rfl
      refine take_ (i := 10) (N := some 37) (v := ?_) (a' := ?_) #[true, true, true, true, true, true, true, true, true, true, true, false] rfl rfl (take_ofW HT_.out HW_.out (by kernel_rfl)) (fun _ _ _ h => h) (Or.inl ⟨by rfl, ?_⟩) hHeld ?_ ?_
      rotate_left
      · rintro w' ⟨s0, s1, s2⟩
        go_simp
        with_reducible rfl
      rotate_left
      · simp only [Act.put, List.setIfInBounds_toArray, List.set_cons_zero, List.set_cons_succ, i64_w, i32_w]
        rfl
      refine one_ (i := 11) (N := some 38) #[true, true, true, true, true, true, true, true, true, true, true, true] rfl rfl (one_of HT_.out (by kernel_rfl)) (by decide) (fun K hK => ?_)
      refine Fnv.goesF_ E79.out #[.int .i64 (wrap64 (at_ + 1)), .int .i64 (wrap64 (sum + wrap64 (g * x)))] (by rfl) rfl rfl rfl (by (try simp only [List.map_toArray, List.map_cons, List.map_nil]); first | done | rfl | (simp only [List.length_drop, List.length_take]; rfl)) ?_
      refine HCALL.out.mono ?_
      rintro e w' ⟨rfl, cur2, hO2, hC2, hT2, hI2⟩
      refine ⟨_, rfl, ?_⟩
      refine hK.out _ _ ⟨hO2.fromB, hO2.kitB, hxk s2 w' hI2⟩ (fun hHeld => ?_)
      clear hK K
      refine norm_ (a' := ?_) ?_ ?_
      rotate_left
      · show Act.put _ (some 38) _ = _
        simp only [Act.put, List.setIfInBounds_toArray, List.set_cons_zero, List.set_cons_succ, i64_w, i32_w]
        rfl
      refine done_ (done_of HT_.out (by kernel_rfl)) ?_
      clear HCALL HF5
      have HO2 := Aside0.mk hO2
      have HC2 := Aside0.mk hC2
      have HI2 := Aside0.mk hI2
      have HT2 := Aside0.mk (show cur2.take at_ = cur.take at_ by
        have z := congrArg (List.take at_) (hT2.trans hset)
        rw [List.take_take, Nat.min_eq_left (Nat.le_succ _)] at z
        rw [z, List.take_append_of_le_length (by rw [List.length_take, HC.out]; omega), List.take_take, Nat.min_self])
      clear hO2 hC2 hI2 hT2 hset
      try go_wp2
      go_roundg ((2 - g).toNat)
      case measure => omega
      case rel => exact ⟨g + 1, cur2, s2, by go_num, by omega, by omega, by omega, HO2, HC2, HT2, HI2, A2'⟩
    · have hle : decide (g ≤ 1) = false := decide_eq_false hg
      have z := H'.out
      rw [upto_nil (by omega)] at z
      obtain rfl : s1 = sf := Option.some.inj z
      clear z H'
      go_wp2
      go_end0
      exact ⟨rfl, cur1, HO.out, HC1.out, HT.out, HI.out⟩
theorem from_calls {σ : Type} (I : σ → World → Prop) (tf : σ → List Int → Int → Option σ) (A : Option Addr) (ck : Nat) (kit : List Int) (low : Int) (tfn : FuncId) (caps : Array Value) (vs : Value) (B : Nat) (hl0 : -1 ≤ low) (hl1 : low ≤ 2) (hlen : kit.length ≤ 4611686018427387904)
    (eg : Enters Try.prog tfn)
    (hIk : ∀ (s : σ) (W : World), I s W → Kd.C (Kd.int .i64) W A kit.length kit)
    (hIo : ∀ (s : σ) (W W2 : World), I s W → B ≤ W.heap.size → Below B W W2 → Kept W W2 (mine B) → I s W2)
    (htell : ∀ (s : σ) (W : World) (x : List Int) (sum : Int) (s' : σ), I s W → B + 6 ≤ W.heap.size → x.length = kit.length → Kd.R (Kd.int .i64) 3 W B (fun k => k = B + 3) vs x → tf s x sum = some s' → Calls Try.prog tfn (#[vs, .int .i64 sum] ++ caps) W fun e W' => e = .returned (.tuple #[]) ∧ I s' W' ∧ Kept W W' (fun k => ¬ mine B k)) :
    ∀ (rest : List Int) (at_ : Nat) (cur : List Int) (sum : Int) (s sf : σ) (W : World), kit.drop at_ = rest → at_ ≤ kit.length → Own A ck kit low (.func (.func tfn) #[] caps) vs B cur W → cur.length = kit.length → I s W → eachG tf low rest (cur.take at_) sum s = some sf →
      Calls Try.prog 108 (#[.int .i64 at_, .int .i64 sum] ++ captured B) W fun e W' => e = .returned (.tuple #[]) ∧ ∃ cur', Own A ck kit low (.func (.func tfn) #[] caps) vs B cur' W' ∧ cur'.length = kit.length ∧ cur'.take at_ = cur.take at_ ∧ I sf W' := by
  intro rest
  induction rest with
  | nil =>
    intro at_ cur sum s sf W hd hat ho hc hi h
    have he : at_ = kit.length := by have := List.drop_eq_nil_iff.1 hd; omega
    subst he
    rw [← hc, List.take_length] at h
    exact leaf I tf A ck kit low tfn caps vs B eg htell cur sum s sf W ho hc hi h
  | cons x rest ih =>
    intro at_ cur sum s sf W hd hat ho hc hi h
    have hlt : at_ < kit.length := by
      rcases Nat.lt_or_ge at_ kit.length with h' | h'
      · exact h'
      · rw [List.drop_eq_nil_of_le h'] at hd; cases hd
    have hx : kit[at_]'hlt = x ∧ kit.drop (at_ + 1) = rest := by
      rw [List.drop_eq_getElem_cons hlt] at hd
      injection hd with h1 h2
      exact ⟨h1, h2⟩
    have hel : ∀ (s : σ) (W : World), I s W → ∃ ad, A = some ad ∧ W.cell? (ad.add at_) = some (.int .i64 x) := by
      intro s W hi
      obtain ⟨ad, ea, hcell⟩ := Kd.at_int (hIk s W hi) (at_ : Int) (by omega) (by omega)
      rw [Int.toNat_natCast] at hcell
      have : rd kit (at_ : Int) = x := by
        unfold rd
        rw [Int.toNat_natCast, List.getD_eq_getElem?_getD, List.getElem?_eq_getElem hlt]
        exact hx.1
      rw [this] at hcell
      exact ⟨ad, ea, hcell⟩
    obtain ⟨ad, ea, _⟩ := hel s W hi
    subst ea
    refine branch I tf ad ck kit low _ vs B hl0 hl1 at_ x (fun s W hi => ?_) hIo rest hlt hlen (fun cur1 sum1 s1 s2 W1 ho1 hc1 hi1 h1 => ?_) cur sum s sf W ho hc hi h
    · obtain ⟨ad2, e2, hcell⟩ := hel s W hi
      cases e2
      exact hcell
    · have e : wrap64 ((at_ : Int) + 1) = ((at_ + 1 : Nat) : Int) := by unfold wrap64; omega
      rw [e]
      exact ih (at_ + 1) cur1 sum1 s1 s2 W1 hx.2 (by omega) ho1 hc1 hi1 h1
theorem row_new (W : World) (base m : Nat) (hb : base ≤ W.heap.size) (hm : m ≤ 9223372036854775807) : Kd.R (Kd.int .i64) 3 (W.alloc (.cells (madeCells (Value.int .i64 0).cells (m * 1)) 3)) base (fun k => k = W.heap.size) (.slice (some ⟨W.heap.size, 0, none⟩) m m) (List.replicate m 0) := by
  have hrep : Reps ((Kd.int .i64).M W base (fun _ => True)) 1 (List.replicate m (0 : Int)) (madeCells (Value.int .i64 0).cells (m * 1)).toList := Kd.reps_made (R := (Kd.int .i64).M W base (fun _ => True)) (z := .int .i64 0) (size := 1) (z0 := 0) rfl (Nat.zero_lt_one) rfl m
  refine ⟨fun k hk => ?_, (madeCells (Value.int .i64 0).cells (m * 1)).toList, ?_, ?_⟩
  · have : W.heap.size = k := by simpa [Value.ownBlock] using hk
    exact this.symm
  · have h2 := World.ownsRow_lit (base := base) (e := 3) (size := 1) W (madeCells (Value.int .i64 0).cells (m * 1)) m hb (by simpa [maxLen] using hm) (by simp [size_madeCells])
    rw [List.length_replicate]
    exact h2
  · exact hrep.imp_ (fun p c hp => hp)
theorem run_store_func {P : Program} {w : World} {a : Addr} {m : Mode} (f : Fn) (x y : Array Value) : (store a (.func f x y) m).run P w = stored P w a (.func f x y) m := run_store P w a _ m rfl
attribute [local go_sem] run_store_func
theorem sizes (w : World) (o : Obj) (n : Nat) (h : w.heap.size = n) : (w.alloc o).heap.size = n + 1 ∧ (w.alloc o).heap[n]? = some o := by
  subst h
  exact ⟨World.size_alloc _ _, blk_new w o⟩
theorem six (w W : World) (o0 o1 o2 o3 o4 o5 : Obj) (e : ((((((w.alloc o0).alloc o1).alloc o2).alloc o3).alloc o4).alloc o5) = W) : W.heap.size = w.heap.size + 6 ∧ Below w.heap.size w W ∧ W.heap[w.heap.size]? = some o0 ∧ W.heap[w.heap.size + 1]? = some o1 ∧ W.heap[w.heap.size + 2]? = some o2 ∧ W.heap[w.heap.size + 4]? = some o4 ∧ W.heap[w.heap.size + 5]? = some o5 := by
  subst e
  obtain ⟨s1, h0⟩ := sizes w o0 _ rfl
  obtain ⟨s2, h1⟩ := sizes _ o1 _ s1
  obtain ⟨s3, h2⟩ := sizes _ o2 _ s2
  obtain ⟨s4, h3⟩ := sizes _ o3 _ s3
  obtain ⟨s5, h4⟩ := sizes _ o4 _ s4
  obtain ⟨s6, h5⟩ := sizes _ o5 _ s5
  exact ⟨s6, below_alloc (below_alloc (below_alloc (below_alloc (below_alloc (below_alloc (Below.refl _ _) _) _) _) _) _) _, blk_alloc (blk_alloc (blk_alloc (blk_alloc (blk_alloc h0 _) _) _) _) _, blk_alloc (blk_alloc (blk_alloc (blk_alloc h1 _) _) _) _, blk_alloc (blk_alloc (blk_alloc h2 _) _) _, blk_alloc h4 _, h5⟩
set_option maxHeartbeats 8000000 in
set_option maxRecDepth 100000 in
theorem each_calls {σ : Type} (I : σ → World → Prop) (tf : σ → List Int → Int → Option σ) (A : Option Addr) (ck : Nat) (kit : List Int) (low : Int) (tfn : FuncId) (caps : Array Value) (hl0 : -1 ≤ low) (hl1 : low ≤ 2) (hlen : kit.length ≤ 35184372088832)
    (eg : Enters Try.prog tfn) (w : World)
    (hIk : ∀ (s : σ) (W : World), I s W → Kd.C (Kd.int .i64) W A kit.length kit)
    (hIo : ∀ (s : σ) (W W2 : World), I s W → w.heap.size ≤ W.heap.size → Below w.heap.size W W2 → Kept W W2 (mine w.heap.size) → I s W2)
    (htell : ∀ (vs : Value) (s : σ) (W : World) (x : List Int) (sum : Int) (s' : σ), I s W → w.heap.size + 6 ≤ W.heap.size → x.length = kit.length → Kd.R (Kd.int .i64) 3 W w.heap.size (fun k => k = w.heap.size + 3) vs x → tf s x sum = some s' → Calls Try.prog tfn (#[vs, .int .i64 sum] ++ caps) W fun e W' => e = .returned (.tuple #[]) ∧ I s' W' ∧ Kept W W' (fun k => ¬ mine w.heap.size k))
    (s sf : σ) (hi : I s w) (h : eachG tf low kit [] 0 s = some sf) :
    Calls Try.prog 78 #[.slice A kit.length ck, .int .i64 low, .func (.func tfn) #[] caps] w fun e W' => e = .returned (.tuple #[]) ∧ I sf W' := by
  have HF := Aside0.mk (fun (vs : Value) => from_calls I tf A ck kit low tfn caps vs w.heap.size hl0 hl1 (by omega) eg hIk hIo (htell vs) kit 0)
  have HIO := Aside0.mk hIo
  have HI := Aside0.mk hi
  have HH := Aside0.mk h
  have E79 := enters_of (P := Try.prog) Try.func108 (by kernel_rfl) rfl
  have hlz := hlen
  clear hIk hIo htell hi h eg
  have hmk : ∀ W : World, (Instr.makeSlice 25 (.int .i64 kit.length) (.int .i64 kit.length)).run Try.prog W = .ok (.slice (some ⟨W.heap.size, 0, none⟩) kit.length kit.length) (W.alloc (.cells (madeCells (Value.int .i64 0).cells (kit.length * 1)) 3)) := fun W => by
    obtain ⟨i0, hi, hzz⟩ := Option.map_eq_some_iff.1 info3
    simp only [Prod.mk.injEq] at hzz
    obtain ⟨hz0, hz1, hz2⟩ := hzz
    have hr := run_make (P := Try.prog) W 25 3 i0 (.int .i64 0) Try.underlying25 hi hz0 .i64 .i64 (kit.length : Int) (kit.length : Int) (by omega) (by omega) (by rw [hz2]; omega) (by omega)
    rw [hz1, Int.toNat_natCast] at hr
    exact hr
  go_enter Try.func78, Try.ntmps78
  go_wp2_with (((with_reducible refine gate_store (t := 101) (p := 7) rfl ?_); refine Hid.out ?_))
  unfold Hid
  have hr0 := row_new (((w.alloc (.cells #[.slice A kit.length ck] 25)).alloc (.cells #[.int .i64 low] 3)).alloc (.cells #[.func (.func tfn) #[] caps] 86)) w.heap.size kit.length (by simp only [World.size_alloc]; omega) (by omega)
  rw [show (((w.alloc (.cells #[.slice A kit.length ck] 25)).alloc (.cells #[.int .i64 low] 3)).alloc (.cells #[.func (.func tfn) #[] caps] 86)).heap.size = w.heap.size + 3 by simp only [World.size_alloc], Nat.mul_one] at hr0
  have hr1 := Kd.R_alloc (Kd.R_alloc hr0 (.cells #[.slice (some ⟨w.heap.size + 1 + 1 + 1, 0, none⟩) kit.length kit.length] 25)) (.cells #[.nilFunc] 101)
  have HR := Aside0.mk hr1
  clear hr0 hr1
  generalize hW : ((((((w.alloc (.cells #[.slice A kit.length ck] 25)).alloc (.cells #[.int .i64 low] 3)).alloc (.cells #[.func (.func tfn) #[] caps] 86)).alloc (.cells (madeCells #[.int .i64 0] kit.length) 3)).alloc (.cells #[.slice (some ⟨w.heap.size + 1 + 1 + 1, 0, none⟩) kit.length kit.length] 25)).alloc (.cells #[.nilFunc] 101)) = W6
  obtain ⟨z0, z1, z2, z3, z4, z5, z6⟩ := six w W6 _ _ _ _ _ _ hW
  have hW2 : ((((((w.alloc (.cells #[.slice A kit.length ck] 25)).alloc (.cells #[.int .i64 low] 3)).alloc (.cells #[.func (.func tfn) #[] caps] 86)).alloc (.cells (madeCells (Value.int .i64 0).cells kit.length) 3)).alloc (.cells #[.slice (some ⟨w.heap.size + 1 + 1 + 1, 0, none⟩) kit.length kit.length] 25)).alloc (.cells #[.nilFunc] 101)) = W6 := hW
  have HR2 := HR.out
  rw [hW2] at HR2
  have HROW := Aside0.mk HR2
  clear HR HR2 hW hW2 hmk
  have HZ := Aside0.mk (And.intro z0 (And.intro z1 (And.intro z2 (And.intro z3 (And.intro z4 z5)))))
  have k5 : W6.cell? ⟨w.heap.size + 1 + 1 + 1 + 1 + 1, 0, none⟩ = some .nilFunc := (blk_cell z6 0).trans rfl
  have f5 : W6.frozen? ⟨w.heap.size + 1 + 1 + 1 + 1 + 1, 0, none⟩ = false := blk_frozen z6 0
  have Z6 := Aside0.mk z6
  clear z0 z1 z2 z3 z4 z5 z6
  refine store_event (t := 101) (p := 7) (v := ?vo_w9) (w1 := (W6.setCell ⟨w.heap.size + 1 + 1 + 1 + 1 + 1, 0, none⟩ (.func (.func 108) #[] #[.pointer (some ⟨w.heap.size, 0, none⟩), .pointer (some ⟨w.heap.size + 1 + 1, 0, none⟩), .pointer (some ⟨w.heap.size + 1 + 1 + 1 + 1, 0, none⟩), .pointer (some ⟨w.heap.size + 1, 0, none⟩), .pointer (some ⟨w.heap.size + 1 + 1 + 1 + 1 + 1, 0, none⟩)]))) ?hg ?ho ?hn ?hr ?_
  case ho => rfl
  case hg => rfl
  case hn => rfl
  case hr => first | (go_simp; done) | (go_simp; rfl)
  intro w9 hw
  have k9 : w9.cell? ⟨w.heap.size + 1 + 1 + 1 + 1 + 1, 0, none⟩ = some (.func (.func 108) #[] #[.pointer (some ⟨w.heap.size, 0, none⟩), .pointer (some ⟨w.heap.size + 1 + 1, 0, none⟩), .pointer (some ⟨w.heap.size + 1 + 1 + 1 + 1, 0, none⟩), .pointer (some ⟨w.heap.size + 1, 0, none⟩), .pointer (some ⟨w.heap.size + 1 + 1 + 1 + 1 + 1, 0, none⟩)]) := by rw [hw]; exact (blk_cell (blk_set Z6.out 0 _) 0).trans rfl
  obtain ⟨z0, z1, z2, z3, z4, z5⟩ := HZ.out
  have hown : Own A ck kit low (.func (.func tfn) #[] caps) (.slice (some ⟨w.heap.size + 3, 0, none⟩) kit.length kit.length) w.heap.size (List.replicate kit.length 0) w9 :=
    { kitB := by rw [hw]; exact (blk_cell (blk_far z2 (show w.heap.size + 0 ≠ w.heap.size + 1 + 1 + 1 + 1 + 1 by omega) _) 0).trans rfl
      lowB := by rw [hw]; exact (blk_cell (blk_far z3 (show w.heap.size + 1 ≠ w.heap.size + 1 + 1 + 1 + 1 + 1 by omega) _) 0).trans rfl
      tellB := by rw [hw]; exact (blk_cell (blk_far z4 (show w.heap.size + 2 ≠ w.heap.size + 1 + 1 + 1 + 1 + 1 by omega) _) 0).trans rfl
      signsB := by rw [hw]; exact (blk_cell (blk_far z5 (show w.heap.size + 4 ≠ w.heap.size + 1 + 1 + 1 + 1 + 1 by omega) _) 0).trans rfl
      fromB := k9
      row := by rw [hw]; exact Kd.R_far HROW.out (fun k hk => by subst hk; show w.heap.size + 3 ≠ w.heap.size + 1 + 1 + 1 + 1 + 1; omega) _
      size := by rw [hw]; simp only [World.setCell]; simp; omega }
  have hi9 : I s w9 := HIO.out s w w9 HI.out (Nat.le_refl _) (by rw [hw]; exact z1.setCell (p := ⟨w.heap.size + 1 + 1 + 1 + 1 + 1, 0, none⟩) (show w.heap.size ≤ w.heap.size + 1 + 1 + 1 + 1 + 1 by omega) _) (by rw [hw]; exact (Kept.of_below z1 (mine w.heap.size)).setCell (p := ⟨w.heap.size + 1 + 1 + 1 + 1 + 1, 0, none⟩) (.inr (show w.heap.size ≤ w.heap.size + 1 + 1 + 1 + 1 + 1 by omega)) _)
  have HC := Aside0.mk (HF.out _ (List.replicate kit.length 0) 0 s sf w9 rfl (Nat.zero_le _) hown (List.length_replicate) hi9 HH.out)
  clear hw hown hi9 z0 z1 z2 z3 z4 z5 HZ Z6 k5 f5 HROW HF HIO HI HH
  go_wp2_with (((with_reducible refine gate 108 ?_); refine (calls_of_args ?_ HC.out).mono ?_))
  · rfl
  · rintro e w' ⟨rfl, cur', ho, hc, ht, hi⟩
    have HI := Aside0.mk hi
    clear ho hc ht hi
    try go_wp2
    go_end0
    exact ⟨rfl, HI.out⟩
end impl_eachSigns

/-! ### impl_HeavyPlan_1_1: function 81 -/
def impl_HeavyPlan_1_1.f (a0 : Int) : Option (Bool) := some (a0 != 0)
set_option maxHeartbeats 8000000 in
set_option maxRecDepth 100000 in
theorem impl_HeavyPlan_1_1.calls (a0 : Int) (r : Bool) (w : World) (h : impl_HeavyPlan_1_1.f a0 = some r) :
    Calls Try.prog 81 #[.int .i64 a0] w fun e w' => e = .returned (.bool r) ∧ Drawn0 w w' := by
  have H : (some (a0 != 0)) = some r := h
  clear h
  obtain rfl := Option.some.inj H
  go_enter Try.func81, Try.ntmps81
  go_wp2
  go_ret
  exact ⟨by first | rfl | (simp; done) | (simp [*]; done), by repeat (first | exact Drawn0.refl _ | apply Drawn0.step)⟩

/-! ### slices_Clone_int_int: function 82 -/
def slices_Clone_int_int.f (l0 : List Int) : Option (List Int) := if l0.length < 8796093022208 then some l0 else none
set_option maxHeartbeats 8000000 in
set_option maxRecDepth 100000 in
theorem slices_Clone_int_int.calls (A0 : Option Addr) (c0 : Nat) (l0 : List Int) (r : List Int) (w : World) (hr0 : Kd.C (Kd.int .i64) w A0 l0.length l0) (hc0 : l0.length ≤ c0) (h : slices_Clone_int_int.f l0 = some r) :
    Calls Try.prog 82 #[.slice A0 l0.length c0] w fun e w' => ∃ v0_ : Value, e = .returned (v0_) ∧ Kd.R (Kd.int .i64) 3 w' w.heap.size (fun _ => True) v0_ r ∧ Below w.heap.size w w' := by
  have hu := Try.underlying3
  have HB := Aside0.mk (Below.refl w.heap.size w)
  have hl : l0.length < 8796093022208 := by
    by_cases h' : l0.length < 8796093022208
    · exact h'
    · unfold slices_Clone_int_int.f at h; rw [if_neg h'] at h; cases h
  have hr : l0 = r := by
    unfold slices_Clone_int_int.f at h; rw [if_pos hl] at h; exact Option.some.inj h
  subst hr
  clear h
  cases A0 with
  | none =>
    have hz : l0 = [] := by
      by_cases h' : 0 < l0.length
      · obtain ⟨ad, h1, _⟩ := hr0.2.2 h'
        cases h1
      · exact List.length_eq_zero_iff.1 (by omega)
    subst hz
    clear hr0 hc0 hl
    have hq := fun (W : World) => Lib.run_eql_slice_nil (P := Try.prog) W 25 3 none 0 c0 0 0 Try.underlying25
    go_enter Try.func82, Try.ntmps82
    go_wp2
    go_ret
    exact ⟨_, rfl, Kd.R_nil _ _ _ _ _, Sq.B HB⟩
  | some ad =>
    have HR0 := Aside0.mk hr0
    clear hr0 hc0
    have HL := Aside0.mk hl
    clear hl
    have hq := fun (W : World) => Lib.run_eql_slice_nil (P := Try.prog) W 25 3 (some ad) l0.length c0 0 0 Try.underlying25
    go_enter Try.func82, Try.ntmps82
    go_wp2_with (first | ((with_reducible refine gate_dst (N := 5) rfl ?_); refine Kd.R_lit (Kd.int .i64) _ 3 ?hg (N := 5) ?hd (xs := ([] : List Int)) (inner := []) (ok := fun _ => True) (okp := fun _ => True) ?hr ?hp (fun _ hk => hk) trivial (Below.refl _ _) (Nat.le_refl _) (by simp) ?_; (case hd => rfl); (case hg => rfl); (case hr => first | (go_simp; done) | (go_simp; rfl)); (case hp => exact (Reps.none _ _)); intro v130 w6 ho7 hb hg_ hnew_; clear hg_ hnew_; have n0_ := Aside0.mk (Kd.R_lower ho7 (below_size HB.out)); have n1_ := Aside0.mk (below_step HB.out hb); have HO131 := n0_; replace HB := n1_; clear n0_ n1_; clear hb ho7) | ((with_reducible refine gate_builtin (b := .append) (xs := #[.tmp 5, .tmp 6]) rfl ?_); at_builtin; refine Kd.R_append_rows (Kd.int .i64) (w0 := w) w.heap.size rfl (.tmp 5) (.tmp 6) 25 3 (.int .i64 0) 8 rfl Try.underlying25 info3 rfl (by decide) (by omega) v130 ([] : List Int) l0 _ _ _ (fun _ => True) (fun _ => False) rfl rfl ?aO ?aR (fun _ _ h => h) (fun _ h => h.elim) ?aF ?aB ?aS ?aL ?_; (case aR => exact (Kd.C_below HR0.out HB.out)); (case aB => exact HB.out); (case aF => exact (fun _ _ => trivial)); (case aO => exact HO131.out); (case aS => exact (below_size HB.out)); (case aL => have := HL.out; simp only [List.length_nil]; omega); intro v133 w8 ho hb hg hat; have n0_ := Aside0.mk (hb); have n1_ := Aside0.mk (ho); clear HB; clear HO131; have HB := n0_; have HO134 := n1_; clear n0_ n1_; clear ho hb hg hat))
    go_ret
    exact ⟨_, rfl, HO134.out, HB.out⟩

-- NOT PRINTED: function 79 (impl_HeavyPlan_1)

end Go.Proofs.Ytgnmomdgfamhnaa.PFnCoins
