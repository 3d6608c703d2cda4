/- Short words for the sides of a printed walk: a row that stood in an older world stands in the one at hand. -/
import Derived.Test.YtfjcnpoigndfjaaWWords
import Derived.Test.YtfjcnpoigndfjaaWLast
import Derived.Test.YtfjcnpoigndfjaaWMore
namespace Go.Proofs.Ytfjcnpoigndfjaa.Sq
open Go.RowKit Go.Proofs.YtfjcnpoigndfjaaW.PrintWords
section
variable {α : Type} {d : Kd α} {e : Nat} {w w1 w2 W U : World} {b : Nat} {ok oku : Nat → Prop} {v u : Value} {xs ys : List α} {β : Type} {d' : Kd β} {e' b' : Nat} {zs : List β}
theorem R (h : Aside0 (d.R e W b ok v xs)) (hb : Below W.heap.size W w := by with_reducible repeat (first | exact Below.refl _ _ | apply below_alloc | apply pw_below_drewN | apply below_drew1)) : d.R e w b ok v xs := Kd.R_below h.out hb
theorem B (HB : Aside0 (Below w.heap.size w W)) (k : Below W.heap.size W w1 := by with_reducible repeat (first | exact Below.refl _ _ | apply below_alloc | apply pw_below_drewN | apply below_drew1)) : Below w.heap.size w w1 := below_step HB.out k
theorem C {A : Option Addr} {n : Nat} (h : d.C W A n xs) (hb : Below W.heap.size W w := by with_reducible repeat (first | exact Below.refl _ _ | apply below_alloc | apply pw_below_drewN | apply below_drew1)) : d.C w A n xs := Kd.C_below h hb
theorem r {A : Option Addr} {n c : Nat} (h : Aside0 (d.R e W b ok (.slice A n c) xs)) (hb : Below W.heap.size W w := by with_reducible repeat (first | exact Below.refl _ _ | apply below_alloc | apply pw_below_drewN | apply below_drew1)) : d.C w A xs.length xs := Kd.C_below (Kd.R_reads' h.out).2.2 hb
theorem n {A : Option Addr} {n c : Nat} (h : Aside0 (d.R e W b ok (.slice A n c) xs)) : n ≤ c := (Kd.R_reads' h.out).2.1
theorem lt (h : Aside0 (d.R e W b ok v xs)) (hb : Below W.heap.size W w := by with_reducible repeat (first | exact Below.refl _ _ | apply below_alloc | apply pw_below_drewN | apply below_drew1)) : ∀ k, v.ownBlock = some k → k < w.heap.size := Kd.R_lt (Kd.R_below h.out hb)
theorem E (h : Aside0 (d.R e W b ok u xs)) (ho : d'.R e' w1 w.heap.size oku v zs) (hk : Below w.heap.size w w1) (hb : Below W.heap.size W w := by with_reducible repeat (first | exact Below.refl _ _ | apply below_alloc | apply pw_below_drewN | apply below_drew1)) : Aside0 (d.R e w1 b (fun k => ok k ∧ some k ≠ v.ownBlock) u xs) := ⟨Kd.R_elder' (Kd.R_below h.out hb) (Kd.R_base ho) hk⟩
theorem N (h : d.R e w1 w.heap.size ok v xs) (HO : Aside0 (d'.R e' W b' oku u zs)) (hb : Below W.heap.size W w := by with_reducible repeat (first | exact Below.refl _ _ | apply below_alloc | apply pw_below_drewN | apply below_drew1)) : d.R e w1 w.heap.size (fun k => ok k ∧ some k ≠ u.ownBlock) v xs := Kd.R_new' h (Kd.R_lt (Kd.R_below HO.out hb))
theorem L (h : d.R e w2 w1.heap.size ok v xs) (HB : Aside0 (Below w.heap.size w W)) (k : Below W.heap.size W w1 := by with_reducible repeat (first | exact Below.refl _ _ | apply below_alloc | apply pw_below_drewN | apply below_drew1)) : Aside0 (d.R e w2 w.heap.size ok v xs) := ⟨Kd.R_lower h (below_size (below_step HB.out k))⟩
theorem S (HB : Aside0 (Below w.heap.size w W)) (hb : Below w1.heap.size w1 w2) (k : Below W.heap.size W w1 := by with_reducible repeat (first | exact Below.refl _ _ | apply below_alloc | apply pw_below_drewN | apply below_drew1)) : Aside0 (Below w.heap.size w w2) := ⟨below_step (below_step HB.out k) hb⟩
theorem T (h : Aside0 (d.R e W b ok v xs)) (hk : Below w.heap.size w w1) (hb : Below W.heap.size W w := by with_reducible repeat (first | exact Below.refl _ _ | apply below_alloc | apply pw_below_drewN | apply below_drew1)) : Aside0 (d.R e w1 b ok v xs) := ⟨Kd.R_below (Kd.R_below h.out hb) hk⟩
theorem dd {x y : Nat} : (w.drewN x).drewN y = w.drewN (x + y) := World.drewN_drewN _ _ _
theorem de {x y z : Nat} : (w.drewN (x + y)).drewN z = w.drewN (x + (y + z)) := Eq.trans (World.drewN_drewN _ _ _) (congrArg (World.drewN _) (Nat.add_assoc _ _ _))
end
end Go.Proofs.Ytfjcnpoigndfjaa.Sq
