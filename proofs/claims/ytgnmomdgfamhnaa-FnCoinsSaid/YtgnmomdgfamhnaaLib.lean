/- Plain lemmas for the pure statements of this seat: rounds, numbers that fit, lists. -/
import Derived.Test.YtgnmomdgfamhnaaWWords
import Derived.Test.YtgnmomdgfamhnaaWSized
namespace Go.Proofs.Ytgnmomdgfamhnaa.Lib
open Go.RowKit Go.Proofs.YtgnmomdgfamhnaaW.PrintWords

theorem w64 {x : Int} (h1 : -9223372036854775808 ≤ x) (h2 : x ≤ 9223372036854775807) : wrap64 x = x := by
  unfold wrap64; omega

/-- `Ev`, with the answers' equality apart. -/
theorem Ev.as {α : Type} {g : Nat → Option α} {r r' : α} (h : Ev g r) (e : r = r') : Ev g r' := e ▸ h

theorem Ev.some {α : Type} {r r' : α} (e : r = r') : Ev (fun _ => some r) r' := e ▸ Ev.now r

/-- A loop over an index: each round goes on, or tells `b` at once. -/
theorem Ev.count {α : Type} {l : Nat → Int → Option α} {n : Int} {P : Int → Prop} {a b : α}
    (hyes : ∀ i, 0 ≤ i → i < n → P i → ∀ r, Ev (fun k => l k (i + 1)) r → Ev (fun k => l k i) r)
    (hno : ∀ i, 0 ≤ i → i < n → ¬ P i → Ev (fun k => l k i) b)
    (hend : ∀ i, 0 ≤ i → i = n → Ev (fun k => l k i) a) :
    ∀ (d : Nat) (i : Int), 0 ≤ i → i + d = n → ((∀ j, i ≤ j → j < n → P j) → Ev (fun k => l k i) a) ∧ ((∃ j, i ≤ j ∧ j < n ∧ ¬ P j) → Ev (fun k => l k i) b)
  | 0, i, h0, hd => ⟨fun _ => hend i h0 (by omega), fun ⟨j, h1, h2, _⟩ => by omega⟩
  | d + 1, i, h0, hd => by
    have ih := Ev.count hyes hno hend d (i + 1) (by omega) (by omega)
    refine ⟨fun h => ?_, fun ⟨j, h1, h2, h3⟩ => ?_⟩
    · exact hyes i h0 (by omega) (h i (by omega) (by omega)) _ (ih.1 fun j hj hn => h j (by omega) hn)
    · by_cases hp : P i
      · refine hyes i h0 (by omega) hp _ (ih.2 ⟨j, ?_, h2, h3⟩)
        by_cases e : j = i
        · exact absurd (e ▸ hp) h3
        · omega
      · exact hno i h0 (by omega) hp

open Classical in
theorem Ev.count' {α : Type} {l : Nat → Int → Option α} {n : Int} {P : Int → Prop} {a b : α} (hn : 0 ≤ n)
    (hyes : ∀ i, 0 ≤ i → i < n → P i → ∀ r, Ev (fun k => l k (i + 1)) r → Ev (fun k => l k i) r)
    (hno : ∀ i, 0 ≤ i → i < n → ¬ P i → Ev (fun k => l k i) b)
    (hend : ∀ i, 0 ≤ i → i = n → Ev (fun k => l k i) a) :
    Ev (fun k => l k 0) (if ∀ j, 0 ≤ j → j < n → P j then a else b) := by
  have h := Ev.count hyes hno hend n.toNat 0 (by omega) (by omega)
  split
  · exact h.1 ‹_›
  · rename_i hc
    refine h.2 ?_
    simp only [Classical.not_forall] at hc
    obtain ⟨j, h1, h2, h3⟩ := hc
    exact ⟨j, h1, h2, h3⟩

/-- A loop over an index with a state that each round turns: what it comes to at the end. -/
theorem Ev.fold {α σ : Type} {l : Nat → σ → Int → Option α} {n : Int} (st : Int → σ) {a : α}
    (hstep : ∀ i, 0 ≤ i → i < n → ∀ r, Ev (fun k => l k (st (i + 1)) (i + 1)) r → Ev (fun k => l k (st i) i) r)
    (hend : Ev (fun k => l k (st n) n) a) :
    ∀ (d : Nat) (i : Int), 0 ≤ i → i + d = n → Ev (fun k => l k (st i) i) a
  | 0, i, h0, hd => by
    obtain rfl : i = n := by omega
    exact hend
  | d + 1, i, h0, hd => hstep i h0 (by omega) _ (Ev.fold st hstep hend d (i + 1) (by omega) (by omega))

theorem getD_lt {α : Type} {l : List α} {i : Nat} (d : α) (h : i < l.length) : l.getD i d = l[i] := by
  rw [List.getD_eq_getElem?_getD, List.getElem?_eq_getElem h, Option.getD_some]

theorem toNat_succ {i : Int} (h : 0 ≤ i) : (i + 1).toNat = i.toNat + 1 := by omega

/-- Filling a row of zeros from the front. -/
theorem set_fill {α : Type} (l : List α) (d d' : α) (i : Nat) (h : i < l.length) :
    (l.take i ++ List.replicate (l.length - i) d).set i (l.getD i d') = l.take (i + 1) ++ List.replicate (l.length - (i + 1)) d := by
  have e : l.length - i = (l.length - (i + 1)) + 1 := by omega
  rw [e, List.replicate_succ, List.set_append_right _ _ (by rw [List.length_take]; omega)]
  have ht : (l.take i).length = i := by simp [List.length_take]; omega
  rw [ht, Nat.sub_self, List.set_cons_zero, List.take_add_one, List.getElem?_eq_getElem h, getD_lt _ h, Option.toList_some, List.append_assoc]
  rfl

theorem getD_ext {α : Type} {a b : List α} (d : α) (hl : a.length = b.length) (h : ∀ i, i < a.length → a.getD i d = b.getD i d) : a = b := by
  refine List.ext_getElem hl fun i h1 h2 => ?_
  have := h i h1
  rwa [getD_lt _ h1, getD_lt _ h2] at this

/-- Of two rows of one length, in `rd`. -/
theorem rd_ext {a b : List Int} (hl : a.length = b.length) (h : ∀ i : Int, 0 ≤ i → i < a.length → rd a i = rd b i) : a = b :=
  getD_ext 0 hl fun i hi => h i (by omega) (by omega)

theorem rd_mem {l : List Int} {i : Int} (h0 : 0 ≤ i) (h1 : i < l.length) : rd l i ∈ l := by
  unfold rd
  rw [getD_lt _ (by omega)]
  exact List.getElem_mem _

/-- The marks m, m + 1, .. -/
def marks (m : Int) (n : Nat) : List Int := (List.range n).map fun (j : Nat) => m + (j : Int)
theorem marks_length (m : Int) (n : Nat) : (marks m n).length = n := by simp [marks]
theorem rd_marks (m : Int) (n : Nat) (i : Int) (h0 : 0 ≤ i) (h1 : i < n) : rd (marks m n) i = m + i := by
  unfold rd marks
  rw [getD_lt _ (by simp; omega)]
  simp
  omega

theorem wf_in {x : Int} (h : (Lit.int .i64 x).wf = true) : -9223372036854775808 ≤ x ∧ x ≤ 9223372036854775807 := by
  simp [Lit.wf, IntKind.min, IntKind.max, IntKind.signed, IntKind.bits] at h
  omega

end Go.Proofs.Ytgnmomdgfamhnaa.Lib
namespace Go.Proofs.Ytgnmomdgfamhnaa.PrintWords
/-- The word's short name, as a row of a law asks for it. -/
theorem sized_ints {H : Type} {enc : TypeId × Value → H} {P : Program} {W : World} {base : Nat} {spare : Nat → Bool} {held : Bool} {t e : TypeId} {k : IntKind} {a : Option Addr} {len cap : Nat} {d : DataW H} {ps : List MemPlace} {ts : List TypeId} {ds : List (DataW H)} {j : Nat}
    (hsz : (DataW.weightsEach P ts ds).all (· ≤ reachBytes) = true) (ht : ts[j]? = some t) (hd : ds[j]? = some d) (hu : P.underlying t = some (.slice e)) (he : P.underlying e = some (.int k)) (hc : P.cellsOf e = 1) {B : Nat} (hB : P.bytesOf e = B)
    (h : DataW.Trod enc P W base spare held t (.slice a len cap) d ps) : len * B ≤ 140737488351232 :=
  Go.Proofs.YtgnmomdgfamhnaaW.PrintWords.sized_ints hsz ht hd hu he hc hB h
end Go.Proofs.Ytgnmomdgfamhnaa.PrintWords
