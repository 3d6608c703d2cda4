-- Made by wip/pr.py of this repo over the kit's print (some contracts by hand).
import Derived.Test.YthgfndbbbhbkeaaDoorPFnStringsx0
import Derived.Test.YthgfndbbbhbkeaaDoorPFnStringsx1
import Derived.Test.YthgfndbbbhbkeaaDoorPFnStringsx2
import Derived.Test.YthgfndbbbhbkeaaDoorPFnStringsx3
namespace Go.Proofs.YthgfndbbbhbkeaaDoor.PFnStrings
open Go.RowKit Go.Proofs.YthgfndbbbhbkeaaDoorW.PrintWords Go.Proofs.YthgfndbbbhbkeaaDoorW.PrintLast Go.Proofs.YthgfndbbbhbkeaaDoorW.PrintMore
attribute [local go_sem] max2_int min2_int max_two min_two max_three min_three max_four min_four   -- for this text's walks alone
set_option linter.unusedVariables false
set_option linter.unusedSimpArgs false

/-! ### laws_FnStrings: function 4 -/
def conv_bytes.f (s : ByteArray) : Option (List Int) := if s.size ≤ 9223372036854775807 then some (bytesOf s) else none
theorem conv_bytes.le {s : ByteArray} {r : List Int} (h : conv_bytes.f s = some r) : s.size ≤ 9223372036854775807 := by
  unfold conv_bytes.f at h
  split at h
  · assumption
  · cases h
theorem conv_bytes.eq {s : ByteArray} {r : List Int} (h : conv_bytes.f s = some r) : bytesOf s = r := by
  unfold conv_bytes.f at h
  split at h
  · exact Option.some.inj h
  · cases h
mutual
def laws_FnStrings.j0 : Nat → List Int → Int → ByteArray → Bool → ByteArray → ByteArray → Bool → Bool → Option (Bool)
  | 0, _, _, _, _, _, _, _, _ => none
  | k + 1, x0, x3, x4, x5, x13, x14, x15, x91 => if x91 = true then (some false) else ((impl_ParseInt.f x4).bind fun bt209 => (if x5 = true then (if bt209.2 = true then (laws_FnStrings.j1 k x0 x13 x14 x15 (bt209.1 != x3)) else (laws_FnStrings.j1 k x0 x13 x14 x15 true)) else (laws_FnStrings.j1 k x0 x13 x14 x15 false)))
def laws_FnStrings.j1 : Nat → List Int → ByteArray → ByteArray → Bool → Bool → Option (Bool)
  | 0, _, _, _, _, _ => none
  | k + 1, x0, x13, x14, x15, x106 => if x106 = true then (some false) else (if x15 = true then ((impl_VerifyChecksum.f k x14).bind fun bt211 => ((conv_bytes.f x14).bind fun t213 => ((laws_vAt.f x0 9).bind fun t216 => (if (t213.length : Int) = 0 then (none) else (if 0 ≤ (Int.tmod t216 (t213.length : Int)) then (if (Int.tmod t216 (t213.length : Int)) < (t213.length : Int) then ((laws_vAt.f x0 10).bind fun t218 => ((impl_VerifyChecksum.f k (strOfNums (t213.set ((Int.tmod t216 (t213.length : Int)) : Int).toNat (Go.bits .xor .u8 (rd t213 (Int.tmod t216 (t213.length : Int))) ((wrap64 (1 + (Int.tmod t218 255))) % 256))))).bind fun bt220 => (if bt211.2 = true then (if bt211.1.toList = x13.toList then (some (!bt220.2)) else (some false)) else (some false)))) else (none)) else (none)))))) else (some (x14.toList == ([] : List UInt8))))
end
def laws_FnStrings.f (k : Nat) (l0 : List Int) : Option (Bool) := (laws_vBig.f l0).bind fun t193 => (if t193 = true then (some true) else ((spec_DrawFormatInt.f l0).bind fun t194 => ((impl_FormatInt.f t194).bind fun bt195 => ((spec_FormatInt.f k t194).bind fun bt197 => ((spec_DrawParseInt.f k l0).bind fun t199 => ((impl_ParseInt.f t199).bind fun bt200 => ((spec_ParseInt.f k t199).bind fun bt202 => ((spec_DrawAppendChecksum.f l0).bind fun t204 => ((impl_AppendChecksum.f k t204).bind fun bt205 => ((spec_AppendChecksum.f k t204).bind fun bt207 => (if bt195.1.toList = bt197.1.toList then (if (bt195.2 != bt197.2) = true then (laws_FnStrings.j0 k l0 t194 bt195.1 bt195.2 t204 bt205.1 bt205.2 true) else (if bt200.1 = bt202.1 then (if (bt200.2 != bt202.2) = true then (laws_FnStrings.j0 k l0 t194 bt195.1 bt195.2 t204 bt205.1 bt205.2 true) else (if bt205.1.toList = bt207.1.toList then (laws_FnStrings.j0 k l0 t194 bt195.1 bt195.2 t204 bt205.1 bt205.2 (bt205.2 != bt207.2)) else (laws_FnStrings.j0 k l0 t194 bt195.1 bt195.2 t204 bt205.1 bt205.2 true))) else (laws_FnStrings.j0 k l0 t194 bt195.1 bt195.2 t204 bt205.1 bt205.2 true))) else (laws_FnStrings.j0 k l0 t194 bt195.1 bt195.2 t204 bt205.1 bt205.2 true))))))))))))
theorem laws_FnStrings.mono_l : ∀ k, (∀ y0 y1 y2 y3 y4 y5 y6 y7, LeO (laws_FnStrings.j0 k y0 y1 y2 y3 y4 y5 y6 y7) (laws_FnStrings.j0 (k + 1) y0 y1 y2 y3 y4 y5 y6 y7)) ∧ (∀ y0 y1 y2 y3 y4, LeO (laws_FnStrings.j1 k y0 y1 y2 y3 y4) (laws_FnStrings.j1 (k + 1) y0 y1 y2 y3 y4))
  | 0 => ⟨fun _ _ _ _ _ _ _ _ r h => by simp [laws_FnStrings.j0] at h, fun _ _ _ _ _ r h => by simp [laws_FnStrings.j1] at h⟩
  | k + 1 => by
    obtain ⟨ih0, ih1⟩ := laws_FnStrings.mono_l k
    refine ⟨?_, ?_⟩
    · intro y0 y1 y2 y3 y4 y5 y6 y7
      unfold laws_FnStrings.j0
      repeat' first
      | (with_reducible exact ih0 _ _ _ _ _ _ _ _)
      | (with_reducible exact ih1 _ _ _ _ _)
      | (with_reducible exact impl_AppendChecksum.mono _ _)
      | (with_reducible exact impl_VerifyChecksum.mono _ _)
      | (with_reducible exact spec_AppendChecksum.mono _ _)
      | (with_reducible exact spec_DrawParseInt.mono _ _)
      | (with_reducible exact spec_FormatInt.mono _ _)
      | (with_reducible exact spec_ParseInt.mono _ _)
      | (with_reducible exact LeO.refl _)
      | (with_reducible exact LeO.none _)
      | (with_reducible refine LeO.ite ?_ ?_)
      | (with_reducible refine LeO.bind ?_ (fun _ => ?_))
      | exact ih0 _ _ _ _ _ _ _ _
      | exact ih1 _ _ _ _ _
      | exact impl_AppendChecksum.mono _ _
      | exact impl_VerifyChecksum.mono _ _
      | exact spec_AppendChecksum.mono _ _
      | exact spec_DrawParseInt.mono _ _
      | exact spec_FormatInt.mono _ _
      | exact spec_ParseInt.mono _ _
      | exact LeO.none _
      | refine LeO.ite ?_ ?_
      | refine LeO.bind ?_ (fun _ => ?_)
    · intro y0 y1 y2 y3 y4
      unfold laws_FnStrings.j1
      repeat' first
      | (with_reducible exact ih0 _ _ _ _ _ _ _ _)
      | (with_reducible exact ih1 _ _ _ _ _)
      | (with_reducible exact impl_AppendChecksum.mono _ _)
      | (with_reducible exact impl_VerifyChecksum.mono _ _)
      | (with_reducible exact spec_AppendChecksum.mono _ _)
      | (with_reducible exact spec_DrawParseInt.mono _ _)
      | (with_reducible exact spec_FormatInt.mono _ _)
      | (with_reducible exact spec_ParseInt.mono _ _)
      | (with_reducible exact LeO.refl _)
      | (with_reducible exact LeO.none _)
      | (with_reducible refine LeO.ite ?_ ?_)
      | (with_reducible refine LeO.bind ?_ (fun _ => ?_))
      | exact ih0 _ _ _ _ _ _ _ _
      | exact ih1 _ _ _ _ _
      | exact impl_AppendChecksum.mono _ _
      | exact impl_VerifyChecksum.mono _ _
      | exact spec_AppendChecksum.mono _ _
      | exact spec_DrawParseInt.mono _ _
      | exact spec_FormatInt.mono _ _
      | exact spec_ParseInt.mono _ _
      | exact LeO.none _
      | refine LeO.ite ?_ ?_
      | refine LeO.bind ?_ (fun _ => ?_)
theorem laws_FnStrings.mono : ∀ a0 k, LeO (laws_FnStrings.f k a0) (laws_FnStrings.f (k + 1) a0) := by
  intro a0 k
  obtain ⟨ih0, ih1⟩ := laws_FnStrings.mono_l k
  unfold laws_FnStrings.f
  repeat' first
      | (with_reducible exact ih0 _ _ _ _ _ _ _ _)
      | (with_reducible exact ih1 _ _ _ _ _)
      | (with_reducible exact impl_AppendChecksum.mono _ _)
      | (with_reducible exact impl_VerifyChecksum.mono _ _)
      | (with_reducible exact spec_AppendChecksum.mono _ _)
      | (with_reducible exact spec_DrawParseInt.mono _ _)
      | (with_reducible exact spec_FormatInt.mono _ _)
      | (with_reducible exact spec_ParseInt.mono _ _)
      | (with_reducible exact LeO.refl _)
      | (with_reducible exact LeO.none _)
      | (with_reducible refine LeO.ite ?_ ?_)
      | (with_reducible refine LeO.bind ?_ (fun _ => ?_))
      | exact ih0 _ _ _ _ _ _ _ _
      | exact ih1 _ _ _ _ _
      | exact impl_AppendChecksum.mono _ _
      | exact impl_VerifyChecksum.mono _ _
      | exact spec_AppendChecksum.mono _ _
      | exact spec_DrawParseInt.mono _ _
      | exact spec_FormatInt.mono _ _
      | exact spec_ParseInt.mono _ _
      | exact LeO.none _
      | refine LeO.ite ?_ ?_
      | refine LeO.bind ?_ (fun _ => ?_)
def laws_FnStrings.T22 : Bool × List (List Nat × List Nat) := (true, [([], []), ([], []), ([], []), ([], []), ([2, 3], [2, 3]), ([4], [4]), ([], []), ([6], [6]), ([7], [7]), ([8], [8]), ([9], [9]), ([5, 10], [5, 10]), ([0, 1, 0, 1, 2, 3, 4, 5, 6, 7, 8, 9, 10, 11], [0, 1]), ([12, 11, 7, 0, 1, 2, 3, 4, 5, 6, 7, 8, 9, 10, 11], [11, 12])])
def laws_FnStrings.B22 : List Nat := [0, 0, 0, 0, 12, 28, 0, 64, 192, 448, 960, 2044, 4095, 8191]
theorem laws_FnStrings.tab22 : rtab .any (opsOf Tryd.f4 22) = laws_FnStrings.T22 := by kernel_rfl
theorem laws_FnStrings.bits22 : waitsOk laws_FnStrings.T22.2 laws_FnStrings.B22 = true := by kernel_rfl
def laws_FnStrings.Pure : Prop := ∀ (l0 : List Int), (l0.length ≤ maxLen ∧ ∀ y0 ∈ l0, (Lit.int .u8 y0).wf = true) → ∃ k, laws_FnStrings.f k l0 = some true
end Go.Proofs.YthgfndbbbhbkeaaDoor.PFnStrings
