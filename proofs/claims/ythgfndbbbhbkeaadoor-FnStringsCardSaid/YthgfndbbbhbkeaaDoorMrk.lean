/- A row of bytes made of a text: it bears the mark of a conversion, so that it is no row of the print's kind. -/
import Derived.Test.YthgfndbbbhbkeaaDoorWWords
import Derived.Test.YthgfndbbbhbkeaaDoorWLast
import Derived.Test.YthgfndbbbhbkeaaDoorWMore
namespace Go.Proofs.YthgfndbbbhbkeaaDoor.Mr
open Go.RowKit Go.Proofs.YthgfndbbbhbkeaaDoorW.PrintWords Go.Proofs.YthgfndbbbhbkeaaDoorW.PrintLast
/-- The row: its block holds these bytes first; the mark lies behind them. -/
def R (w : World) (base : Nat) (v : Value) (xs : List Int) : Prop :=
  ∃ (g cap : Nat) (cells : Array Value) (q : TypeId) (lo hi : Nat), v = .slice (some ⟨g, 0, none⟩) xs.length cap ∧ base ≤ g ∧ w.heap[g]? = some (.cells cells q (lo, hi)) ∧ xs.length ≤ lo ∧ xs.length ≤ cells.size ∧ xs.length ≤ 9223372036854775807 ∧ ∀ j, j < xs.length → cells[j]? = some (.int .u8 (xs.getD j 0))
theorem R_below {w w1 : World} {base : Nat} {v : Value} {xs : List Int} (h : R w base v xs) (hb : Below w.heap.size w w1) : R w1 base v xs := by
  obtain ⟨g, cap, cells, q, lo, hi, h1, h2, h3, h4⟩ := h
  have hlt : g < w.heap.size := by
    rcases Nat.lt_or_ge g w.heap.size with h' | h'
    · exact h'
    · rw [Array.getElem?_eq_none h'] at h3; cases h3
  exact ⟨g, cap, cells, q, lo, hi, h1, h2, (hb.block g hlt).trans h3, h4⟩
theorem R_drew {w : World} {base : Nat} {v : Value} {xs : List Int} (h : R w base v xs) : R w.drew base v xs := R_below h (below_drew (Below.refl _ _))
theorem R_drewN {w : World} {base : Nat} {v : Value} {xs : List Int} (h : R w base v xs) (n : Nat) : R (w.drewN n) base v xs := R_below h (pw_below_drewN (Below.refl _ _) n)
theorem R_alloc {w : World} {base : Nat} {v : Value} {xs : List Int} (h : R w base v xs) (o : Obj) : R (w.alloc o) base v xs := R_below h (below_alloc (Below.refl _ _) o)
theorem R_lower {w : World} {base b : Nat} {v : Value} {xs : List Int} (h : R w base v xs) (hb : b ≤ base) : R w b v xs := by
  obtain ⟨g, cap, cells, q, lo, hi, h1, h2, h3⟩ := h
  exact ⟨g, cap, cells, q, lo, hi, h1, by omega, h3⟩
theorem R_slice {w : World} {base : Nat} {v : Value} {xs : List Int} (h : R w base v xs) : ∃ A c, v = .slice A xs.length c := by
  obtain ⟨g, cap, _, _, _, _, h1, _⟩ := h
  exact ⟨_, _, h1⟩
theorem R_form {w : World} {base : Nat} {v : Value} {xs : List Int} (h : R w base v xs) (_ : 0 < xs.length) : ∃ g cap, v = .slice (some ⟨g, 0, none⟩) xs.length cap ∧ base ≤ g ∧ g < w.heap.size ∧ ∃ cells q lo hi, w.heap[g]? = some (.cells cells q (lo, hi)) := by
  obtain ⟨g, cap, cells, q, lo, hi, h1, h2, h3, _⟩ := h
  refine ⟨g, cap, h1, h2, ?_, cells, q, lo, hi, h3⟩
  rcases Nat.lt_or_ge g w.heap.size with h' | h'
  · exact h'
  · rw [Array.getElem?_eq_none h'] at h3; cases h3
theorem reads {w : World} {base n c : Nat} {A : Option Addr} {xs : List Int} (h : R w base (.slice A n c) xs) : n = xs.length ∧ ReadsInt w .u8 A xs.length xs := by
  obtain ⟨g, cap, cells, q, lo, hi, h1, h2, h3, h4, h5, h6, h7⟩ := h
  injection h1 with e1 e2 e3
  subst e1
  refine ⟨e2, rfl, h6, fun hn => ⟨_, rfl, fun j hj => ?_⟩⟩
  rw [add_plain]
  simp only [World.cell?, h3]
  exact h7 j hj
theorem at_ {w : World} {base n c : Nat} {A : Option Addr} {xs : List Int} (h : R w base (.slice A n c) xs) (i : Int) (h0 : 0 ≤ i) (h1 : i < xs.length) : ∃ ad, A = some ad ∧ w.cell? (ad.add i.toNat) = some (.int .u8 (rd xs i)) := (reads h).2.at_ i h0 h1
theorem R_celln {w : World} {base g n c : Nat} {xs : List Int} (h : R w base (.slice (some ⟨g, 0, none⟩) n c) xs) (i : Int) (h0 : 0 ≤ i) (h1 : i < n) : w.cell? ⟨g, i.toNat, none⟩ = some (.int .u8 (rd xs i)) ∧ w.frozen? ⟨g, i.toNat, none⟩ = false := by
  obtain ⟨rfl, hr⟩ := reads h
  obtain ⟨ad, e, hc⟩ := hr.at_ i h0 h1
  cases e
  rw [add_plain] at hc
  refine ⟨hc, ?_⟩
  obtain ⟨g', cap, cells, q, lo, hi, e1, h2, h3, h4, _⟩ := h
  injection e1 with e1 _ _
  cases e1
  simp only [World.frozen?, h3]
  have : ¬ lo ≤ i.toNat := by omega
  simp [this]
theorem R_putn {w : World} {base g n c : Nat} {xs : List Int} (h : R w base (.slice (some ⟨g, 0, none⟩) n c) xs) (i : Int) (x : Int) : R (w.setCell ⟨g, i.toNat, none⟩ (.int .u8 x)) base (.slice (some ⟨g, 0, none⟩) n c) (xs.set i.toNat x) := by
  obtain ⟨g', cap, cells, q, lo, hi, e1, h2, h3, h4, h5, h6, h7⟩ := h
  injection e1 with e1 e2 e3
  cases e1
  subst e2
  subst e3
  refine ⟨g, c, cells.setIfInBounds i.toNat (.int .u8 x), q, lo, hi, by rw [List.length_set], h2, ?_, by rw [List.length_set]; exact h4, by rw [List.length_set, Array.size_setIfInBounds]; exact h5, by rw [List.length_set]; exact h6, fun j hj => ?_⟩
  · simp [World.setCell, Array.getElem?_modify, h3]
  · rw [List.length_set] at hj
    by_cases hij : i.toNat = j
    · subst hij
      rw [Array.getElem?_setIfInBounds_self_of_lt (by omega), List.getD_eq_getElem?_getD, List.getElem?_set_self hj]
      rfl
    · rw [Array.getElem?_setIfInBounds_ne hij, h7 j hj, List.getD_eq_getElem?_getD, List.getD_eq_getElem?_getD, List.getElem?_set_ne hij]
theorem conv {P : Program} {w : World} {base : Nat} {v : Value} {src dst e : TypeId} {xs : List Int} (hs : P.underlying src = some (.slice e)) (he : P.underlying e = some (.int .u8)) (hd : P.underlying dst = some .string) (h : R w base v xs) : (convert src dst v).run P w = .ok (.string (strOfNums xs)) w := by
  obtain ⟨A, c, rfl⟩ := R_slice h
  exact Kd.C_string hs he hd (Kd.C_of_reads (enc := Value.int .u8) (d := (0 : Int)) (h1 := fun _ => rfl) (reads h).2)
/-- The text's row. -/
theorem of_text (W : World) (e : TypeId) (s : ByteArray) (hs : s.size ≤ 9223372036854775807) : R (Lib.bytesWorld W e s) W.heap.size (.slice (some ⟨W.heap.size, 0, none⟩) s.size (grownCap W s.size 0 e)) (bytesOf s) := by
  have hl := bytesOf_length s
  have hsz : (Lib.bytesCells W e s).size = s.size + (grownCap W s.size 0 e - s.size) := by
    unfold Lib.bytesCells
    rw [Array.size_append, Array.size_map, Array.size_replicate]
    rfl
  refine ⟨W.heap.size, _, Lib.bytesCells W e s, e, _, _, by rw [hl], Nat.le_refl _, Lib.bytesWorld_at_new W e s, by rw [hl, hsz]; omega, by rw [hl, hsz]; omega, by rw [hl]; exact hs, fun j hj => ?_⟩
  have h := (bytes_reads W e s hs).2.2 (by omega)
  obtain ⟨ad, e1, hc⟩ := h
  cases e1
  have h2 := hc j (by omega)
  rw [add_plain] at h2
  simp only [World.cell?, Lib.bytesWorld_at_new] at h2
  exact h2
section
variable {P : Program} {ops : Array Oper} {rest : List Oper} {o : Oper} {a : Act} {Q : Exit → Act → World → Prop}
theorem gate_conv {W : World} {src dst : TypeId} {x : Operand} (_ho : o.op = .convert src dst x) (h : wpList P ops Q (o :: rest) a W) : wpList P ops Q (o :: rest) a W := h
/-- The conversion, as an event of the walk. -/
theorem conv_event {W : World} (N : Tmp) (src dst e : TypeId) (x : Operand) (s : ByteArray) {u : TypeDesc} (hN : o.dst = some N) (hgd : o.guard = none) (ho : o.op = .convert src dst x) (hx : a.eval x = .string s)
    (hu : P.underlying src = some u) (hd : P.underlying dst = some (.slice e)) (he : P.underlying e = some (.int .u8)) (hs : s.size ≤ 9223372036854775807)
    (h : ∀ v w', R w' W.heap.size v (bytesOf s) → Below W.heap.size W w' → wpList P ops Q rest (a.put (some N) v) w') : wpList P ops Q (o :: rest) a W := by
  refine wpList_plain hgd fun K hK => ?_
  unfold Oper.wp
  have hrun : (execOp a.eval o).run P W = .ok (.value (.slice (some ⟨W.heap.size, 0, none⟩) s.size (grownCap W s.size 0 e))) (Lib.bytesWorld W e s) := by
    unfold execOp
    simp [ho, hx, Lib.run_convert_string_bytes W src dst e s hu hd he]
  rw [hrun]
  show K (a.put o.dst _) _
  rw [hN]
  exact hK _ _ (h _ _ (of_text W e s hs) (bytes_below (Below.refl _ _) (Nat.le_refl _) e s))
end
end Go.Proofs.YthgfndbbbhbkeaaDoor.Mr
