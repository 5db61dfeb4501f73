-- Written by a program of this session (wip/tools/myprint.py) that runs the kit's print with hooks of its own. Lean checks it.
import Derived.Test.YtmlhnpggjkoinaaDoorPFnExactFewestWordsx0
import Derived.Test.YtmlhnpggjkoinaaDoorSlimMore
import Derived.Test.YtmlhnpggjkoinaaDoorPFnExactFewestWordsx7
namespace Go.Proofs.YtmlhnpggjkoinaaDoor.PFnExactFewestWords
open Go.RowKit Go.Proofs.YtmlhnpggjkoinaaDoorW.PrintWords Go.Proofs.YtmlhnpggjkoinaaDoorW.PrintLast Go.Proofs.YtmlhnpggjkoinaaDoorW.PrintMore
attribute [local go_sem] max2_int min2_int max_two min_two max_three min_three max_four min_four   -- for this text's walks alone
set_option linter.unusedVariables false
set_option linter.unusedSimpArgs false

/-! ### impl_kind: function 97 -/
mutual
def impl_kind.j0 : Nat → Int → Int → Bool → Option (Int × Int)
  | 0, _, _, _ => none
  | k + 1, x5, x6, x16 => if x16 = true then (some (4, x6)) else (if x5 < 64 then (impl_kind.j1 k x5 x6 true) else ((impl_in.f x5 72 75).bind fun t276 => (if t276 = true then (impl_kind.j1 k x5 x6 true) else ((impl_in.f x5 96 97).bind fun t277 => (impl_kind.j1 k x5 x6 t277)))))
def impl_kind.j1 : Nat → Int → Int → Bool → Option (Int × Int)
  | 0, _, _, _ => none
  | k + 1, x5, x6, x24 => if x24 = true then (some (5, x6)) else ((impl_in.f x5 68 71).bind fun t278 => (if t278 = true then (some (6, x6)) else ((impl_in.f x5 80 89).bind fun t279 => (if t279 = true then (some (8, x6)) else (some (0, 0))))))
def impl_kind.j2 : Nat → Int → Bool → Option (Int × Int)
  | 0, _, _ => none
  | k + 1, x0, x44 => if x44 = true then (some (1, 0)) else (if x0 = 32 then (impl_kind.j3 k x0 true) else (if x0 = 160 then (impl_kind.j3 k x0 true) else (impl_kind.j3 k x0 (x0 == 8064))))
def impl_kind.j3 : Nat → Int → Bool → Option (Int × Int)
  | 0, _, _ => none
  | k + 1, x0, x51 => if x51 = true then (some (2, 0)) else ((impl_in.f x0 48 57).bind fun t282 => (if t282 = true then (some (8, 0)) else ((impl_in.f x0 65 90).bind fun t283 => (if t283 = true then (some (4, 1)) else ((impl_in.f x0 97 122).bind fun t284 => (if t284 = true then (some (5, 1)) else ((impl_in.f x0 33 126).bind fun t285 => (if t285 = true then (some (9, 0)) else (if x0 = 173 then (some (11, 0)) else ((impl_in.f x0 161 191).bind fun t286 => (if t286 = true then (some (10, 0)) else ((impl_in.f x0 1280 1311).bind fun t287 => (if t287 = true then (some (7, 5)) else ((impl_in.f x0 1360 1369).bind fun t288 => (if t288 = true then (some (8, 5)) else ((impl_in.f x0 1536 1567).bind fun t289 => (if t289 = true then (some (7, 6)) else ((impl_in.f x0 1568 1579).bind fun t290 => (if t290 = true then (impl_kind.j4 k x0 true) else (if x0 = 1584 then (impl_kind.j4 k x0 true) else (impl_kind.j4 k x0 (x0 == 1585))))))))))))))))))))))
def impl_kind.j4 : Nat → Int → Bool → Option (Int × Int)
  | 0, _, _ => none
  | k + 1, x0, x89 => if x89 = true then (some (3, 6)) else ((impl_in.f x0 1616 1625).bind fun t291 => (if t291 = true then (some (8, 6)) else ((impl_in.f x0 1792 1810).bind fun t292 => (if t292 = true then (impl_kind.j5 k x0 true) else ((impl_in.f x0 1824 1844).bind fun t293 => (if t293 = true then (impl_kind.j5 k x0 true) else ((impl_in.f x0 1857 1883).bind fun t294 => (if t294 = true then (impl_kind.j5 k x0 true) else ((impl_in.f x0 12288 23459).bind fun t295 => (impl_kind.j5 k x0 t295))))))))))
def impl_kind.j5 : Nat → Int → Bool → Option (Int × Int)
  | 0, _, _ => none
  | k + 1, x0, x103 => if x103 = true then (some (7, 7)) else ((impl_in.f x0 2048 2095).bind fun t296 => (if t296 = true then (some (7, 8)) else ((impl_in.f x0 4096 4159).bind fun t297 => (if t297 = true then (some (3, 0)) else ((impl_in.f x0 7680 7748).bind fun t298 => (if t298 = true then (impl_kind.j6 k x0 true) else ((impl_in.f x0 7760 7785).bind fun t299 => (impl_kind.j6 k x0 t299))))))))
def impl_kind.j6 : Nat → Int → Bool → Option (Int × Int)
  | 0, _, _ => none
  | k + 1, x0, x124 => if x124 = true then (some (10, 0)) else ((impl_in.f x0 7936 7947).bind fun t300 => (if t300 = true then (impl_kind.j7 k x0 true) else (if x0 = 7953 then (impl_kind.j7 k x0 true) else (impl_kind.j7 k x0 (x0 == 7954)))))
def impl_kind.j7 : Nat → Int → Bool → Option (Int × Int)
  | 0, _, _ => none
  | k + 1, x0, x131 => if x131 = true then (some (11, 0)) else ((impl_in.f x0 8192 9631).bind fun t301 => (if t301 = true then (impl_kind.j8 k x0 (decide ((Int.tmod (wrap64 (x0 - 8192)) 512) < 416))) else (impl_kind.j8 k x0 false)))
def impl_kind.j8 : Nat → Int → Bool → Option (Int × Int)
  | 0, _, _ => none
  | k + 1, x0, x142 => if x142 = true then (if (Int.tmod (wrap64 (x0 - 8192)) 512) < 208 then (some (4, 1)) else (some (5, 1))) else ((impl_in.f x0 9728 9753).bind fun t302 => (if t302 = true then (some (4, 1)) else ((impl_in.f x0 9984 10009).bind fun t303 => (if t303 = true then (impl_kind.j9 k x0 true) else ((impl_in.f x0 10032 10035).bind fun t304 => (impl_kind.j9 k x0 t304))))))
def impl_kind.j9 : Nat → Int → Bool → Option (Int × Int)
  | 0, _, _ => none
  | k + 1, x0, x158 => if x158 = true then (some (10, 0)) else ((impl_in.f x0 10016 10025).bind fun t305 => (if t305 = true then (some (8, 0)) else ((impl_in.f x0 24576 26623).bind fun t306 => (if t306 = true then (some (7, 9)) else (some (0, 0))))))
end
def impl_kind.f (k : Nat) (a0 : Int) : Option (Int × Int) := (impl_block.f a0).bind fun bt273 => (if bt273.1 > 0 then (if bt273.2 < 32 then (impl_kind.j0 k bt273.2 (bt273.1 / 256) true) else ((impl_in.f bt273.2 64 67).bind fun t275 => (impl_kind.j0 k bt273.2 (bt273.1 / 256) t275))) else ((impl_in.f a0 0 31).bind fun t280 => (if t280 = true then (impl_kind.j2 k a0 true) else ((impl_in.f a0 127 159).bind fun t281 => (impl_kind.j2 k a0 t281)))))
theorem impl_kind.mono_l : ∀ k, (∀ y0 y1 y2, LeO (impl_kind.j0 k y0 y1 y2) (impl_kind.j0 (k + 1) y0 y1 y2)) ∧ (∀ y0 y1 y2, LeO (impl_kind.j1 k y0 y1 y2) (impl_kind.j1 (k + 1) y0 y1 y2)) ∧ (∀ y0 y1, LeO (impl_kind.j2 k y0 y1) (impl_kind.j2 (k + 1) y0 y1)) ∧ (∀ y0 y1, LeO (impl_kind.j3 k y0 y1) (impl_kind.j3 (k + 1) y0 y1)) ∧ (∀ y0 y1, LeO (impl_kind.j4 k y0 y1) (impl_kind.j4 (k + 1) y0 y1)) ∧ (∀ y0 y1, LeO (impl_kind.j5 k y0 y1) (impl_kind.j5 (k + 1) y0 y1)) ∧ (∀ y0 y1, LeO (impl_kind.j6 k y0 y1) (impl_kind.j6 (k + 1) y0 y1)) ∧ (∀ y0 y1, LeO (impl_kind.j7 k y0 y1) (impl_kind.j7 (k + 1) y0 y1)) ∧ (∀ y0 y1, LeO (impl_kind.j8 k y0 y1) (impl_kind.j8 (k + 1) y0 y1)) ∧ (∀ y0 y1, LeO (impl_kind.j9 k y0 y1) (impl_kind.j9 (k + 1) y0 y1))
  | 0 => ⟨fun _ _ _ r h => by simp [impl_kind.j0] at h, fun _ _ _ r h => by simp [impl_kind.j1] at h, fun _ _ r h => by simp [impl_kind.j2] at h, fun _ _ r h => by simp [impl_kind.j3] at h, fun _ _ r h => by simp [impl_kind.j4] at h, fun _ _ r h => by simp [impl_kind.j5] at h, fun _ _ r h => by simp [impl_kind.j6] at h, fun _ _ r h => by simp [impl_kind.j7] at h, fun _ _ r h => by simp [impl_kind.j8] at h, fun _ _ r h => by simp [impl_kind.j9] at h⟩
  | k + 1 => by
    obtain ⟨ih0, ih1, ih2, ih3, ih4, ih5, ih6, ih7, ih8, ih9⟩ := impl_kind.mono_l k
    refine ⟨?_, ?_, ?_, ?_, ?_, ?_, ?_, ?_, ?_, ?_⟩
    · intro y0 y1 y2
      unfold impl_kind.j0
      repeat' first
      | (with_reducible exact ih0 _ _ _)
      | (with_reducible exact ih1 _ _ _)
      | (with_reducible exact ih2 _ _)
      | (with_reducible exact ih3 _ _)
      | (with_reducible exact ih4 _ _)
      | (with_reducible exact ih5 _ _)
      | (with_reducible exact ih6 _ _)
      | (with_reducible exact ih7 _ _)
      | (with_reducible exact ih8 _ _)
      | (with_reducible exact ih9 _ _)
      | (with_reducible exact LeO.refl _)
      | (with_reducible exact LeO.none _)
      | (with_reducible refine LeO.ite ?_ ?_)
      | (with_reducible refine LeO.bind ?_ (fun _ => ?_))
      | exact ih0 _ _ _
      | exact ih1 _ _ _
      | exact ih2 _ _
      | exact ih3 _ _
      | exact ih4 _ _
      | exact ih5 _ _
      | exact ih6 _ _
      | exact ih7 _ _
      | exact ih8 _ _
      | exact ih9 _ _
      | exact LeO.none _
      | refine LeO.ite ?_ ?_
      | refine LeO.bind ?_ (fun _ => ?_)
    · intro y0 y1 y2
      unfold impl_kind.j1
      repeat' first
      | (with_reducible exact ih0 _ _ _)
      | (with_reducible exact ih1 _ _ _)
      | (with_reducible exact ih2 _ _)
      | (with_reducible exact ih3 _ _)
      | (with_reducible exact ih4 _ _)
      | (with_reducible exact ih5 _ _)
      | (with_reducible exact ih6 _ _)
      | (with_reducible exact ih7 _ _)
      | (with_reducible exact ih8 _ _)
      | (with_reducible exact ih9 _ _)
      | (with_reducible exact LeO.refl _)
      | (with_reducible exact LeO.none _)
      | (with_reducible refine LeO.ite ?_ ?_)
      | (with_reducible refine LeO.bind ?_ (fun _ => ?_))
      | exact ih0 _ _ _
      | exact ih1 _ _ _
      | exact ih2 _ _
      | exact ih3 _ _
      | exact ih4 _ _
      | exact ih5 _ _
      | exact ih6 _ _
      | exact ih7 _ _
      | exact ih8 _ _
      | exact ih9 _ _
      | exact LeO.none _
      | refine LeO.ite ?_ ?_
      | refine LeO.bind ?_ (fun _ => ?_)
    · intro y0 y1
      unfold impl_kind.j2
      repeat' first
      | (with_reducible exact ih0 _ _ _)
      | (with_reducible exact ih1 _ _ _)
      | (with_reducible exact ih2 _ _)
      | (with_reducible exact ih3 _ _)
      | (with_reducible exact ih4 _ _)
      | (with_reducible exact ih5 _ _)
      | (with_reducible exact ih6 _ _)
      | (with_reducible exact ih7 _ _)
      | (with_reducible exact ih8 _ _)
      | (with_reducible exact ih9 _ _)
      | (with_reducible exact LeO.refl _)
      | (with_reducible exact LeO.none _)
      | (with_reducible refine LeO.ite ?_ ?_)
      | (with_reducible refine LeO.bind ?_ (fun _ => ?_))
      | exact ih0 _ _ _
      | exact ih1 _ _ _
      | exact ih2 _ _
      | exact ih3 _ _
      | exact ih4 _ _
      | exact ih5 _ _
      | exact ih6 _ _
      | exact ih7 _ _
      | exact ih8 _ _
      | exact ih9 _ _
      | exact LeO.none _
      | refine LeO.ite ?_ ?_
      | refine LeO.bind ?_ (fun _ => ?_)
    · intro y0 y1
      unfold impl_kind.j3
      repeat' first
      | (with_reducible exact ih0 _ _ _)
      | (with_reducible exact ih1 _ _ _)
      | (with_reducible exact ih2 _ _)
      | (with_reducible exact ih3 _ _)
      | (with_reducible exact ih4 _ _)
      | (with_reducible exact ih5 _ _)
      | (with_reducible exact ih6 _ _)
      | (with_reducible exact ih7 _ _)
      | (with_reducible exact ih8 _ _)
      | (with_reducible exact ih9 _ _)
      | (with_reducible exact LeO.refl _)
      | (with_reducible exact LeO.none _)
      | (with_reducible refine LeO.ite ?_ ?_)
      | (with_reducible refine LeO.bind ?_ (fun _ => ?_))
      | exact ih0 _ _ _
      | exact ih1 _ _ _
      | exact ih2 _ _
      | exact ih3 _ _
      | exact ih4 _ _
      | exact ih5 _ _
      | exact ih6 _ _
      | exact ih7 _ _
      | exact ih8 _ _
      | exact ih9 _ _
      | exact LeO.none _
      | refine LeO.ite ?_ ?_
      | refine LeO.bind ?_ (fun _ => ?_)
    · intro y0 y1
      unfold impl_kind.j4
      repeat' first
      | (with_reducible exact ih0 _ _ _)
      | (with_reducible exact ih1 _ _ _)
      | (with_reducible exact ih2 _ _)
      | (with_reducible exact ih3 _ _)
      | (with_reducible exact ih4 _ _)
      | (with_reducible exact ih5 _ _)
      | (with_reducible exact ih6 _ _)
      | (with_reducible exact ih7 _ _)
      | (with_reducible exact ih8 _ _)
      | (with_reducible exact ih9 _ _)
      | (with_reducible exact LeO.refl _)
      | (with_reducible exact LeO.none _)
      | (with_reducible refine LeO.ite ?_ ?_)
      | (with_reducible refine LeO.bind ?_ (fun _ => ?_))
      | exact ih0 _ _ _
      | exact ih1 _ _ _
      | exact ih2 _ _
      | exact ih3 _ _
      | exact ih4 _ _
      | exact ih5 _ _
      | exact ih6 _ _
      | exact ih7 _ _
      | exact ih8 _ _
      | exact ih9 _ _
      | exact LeO.none _
      | refine LeO.ite ?_ ?_
      | refine LeO.bind ?_ (fun _ => ?_)
    · intro y0 y1
      unfold impl_kind.j5
      repeat' first
      | (with_reducible exact ih0 _ _ _)
      | (with_reducible exact ih1 _ _ _)
      | (with_reducible exact ih2 _ _)
      | (with_reducible exact ih3 _ _)
      | (with_reducible exact ih4 _ _)
      | (with_reducible exact ih5 _ _)
      | (with_reducible exact ih6 _ _)
      | (with_reducible exact ih7 _ _)
      | (with_reducible exact ih8 _ _)
      | (with_reducible exact ih9 _ _)
      | (with_reducible exact LeO.refl _)
      | (with_reducible exact LeO.none _)
      | (with_reducible refine LeO.ite ?_ ?_)
      | (with_reducible refine LeO.bind ?_ (fun _ => ?_))
      | exact ih0 _ _ _
      | exact ih1 _ _ _
      | exact ih2 _ _
      | exact ih3 _ _
      | exact ih4 _ _
      | exact ih5 _ _
      | exact ih6 _ _
      | exact ih7 _ _
      | exact ih8 _ _
      | exact ih9 _ _
      | exact LeO.none _
      | refine LeO.ite ?_ ?_
      | refine LeO.bind ?_ (fun _ => ?_)
    · intro y0 y1
      unfold impl_kind.j6
      repeat' first
      | (with_reducible exact ih0 _ _ _)
      | (with_reducible exact ih1 _ _ _)
      | (with_reducible exact ih2 _ _)
      | (with_reducible exact ih3 _ _)
      | (with_reducible exact ih4 _ _)
      | (with_reducible exact ih5 _ _)
      | (with_reducible exact ih6 _ _)
      | (with_reducible exact ih7 _ _)
      | (with_reducible exact ih8 _ _)
      | (with_reducible exact ih9 _ _)
      | (with_reducible exact LeO.refl _)
      | (with_reducible exact LeO.none _)
      | (with_reducible refine LeO.ite ?_ ?_)
      | (with_reducible refine LeO.bind ?_ (fun _ => ?_))
      | exact ih0 _ _ _
      | exact ih1 _ _ _
      | exact ih2 _ _
      | exact ih3 _ _
      | exact ih4 _ _
      | exact ih5 _ _
      | exact ih6 _ _
      | exact ih7 _ _
      | exact ih8 _ _
      | exact ih9 _ _
      | exact LeO.none _
      | refine LeO.ite ?_ ?_
      | refine LeO.bind ?_ (fun _ => ?_)
    · intro y0 y1
      unfold impl_kind.j7
      repeat' first
      | (with_reducible exact ih0 _ _ _)
      | (with_reducible exact ih1 _ _ _)
      | (with_reducible exact ih2 _ _)
      | (with_reducible exact ih3 _ _)
      | (with_reducible exact ih4 _ _)
      | (with_reducible exact ih5 _ _)
      | (with_reducible exact ih6 _ _)
      | (with_reducible exact ih7 _ _)
      | (with_reducible exact ih8 _ _)
      | (with_reducible exact ih9 _ _)
      | (with_reducible exact LeO.refl _)
      | (with_reducible exact LeO.none _)
      | (with_reducible refine LeO.ite ?_ ?_)
      | (with_reducible refine LeO.bind ?_ (fun _ => ?_))
      | exact ih0 _ _ _
      | exact ih1 _ _ _
      | exact ih2 _ _
      | exact ih3 _ _
      | exact ih4 _ _
      | exact ih5 _ _
      | exact ih6 _ _
      | exact ih7 _ _
      | exact ih8 _ _
      | exact ih9 _ _
      | exact LeO.none _
      | refine LeO.ite ?_ ?_
      | refine LeO.bind ?_ (fun _ => ?_)
    · intro y0 y1
      unfold impl_kind.j8
      repeat' first
      | (with_reducible exact ih0 _ _ _)
      | (with_reducible exact ih1 _ _ _)
      | (with_reducible exact ih2 _ _)
      | (with_reducible exact ih3 _ _)
      | (with_reducible exact ih4 _ _)
      | (with_reducible exact ih5 _ _)
      | (with_reducible exact ih6 _ _)
      | (with_reducible exact ih7 _ _)
      | (with_reducible exact ih8 _ _)
      | (with_reducible exact ih9 _ _)
      | (with_reducible exact LeO.refl _)
      | (with_reducible exact LeO.none _)
      | (with_reducible refine LeO.ite ?_ ?_)
      | (with_reducible refine LeO.bind ?_ (fun _ => ?_))
      | exact ih0 _ _ _
      | exact ih1 _ _ _
      | exact ih2 _ _
      | exact ih3 _ _
      | exact ih4 _ _
      | exact ih5 _ _
      | exact ih6 _ _
      | exact ih7 _ _
      | exact ih8 _ _
      | exact ih9 _ _
      | exact LeO.none _
      | refine LeO.ite ?_ ?_
      | refine LeO.bind ?_ (fun _ => ?_)
    · intro y0 y1
      unfold impl_kind.j9
      repeat' first
      | (with_reducible exact ih0 _ _ _)
      | (with_reducible exact ih1 _ _ _)
      | (with_reducible exact ih2 _ _)
      | (with_reducible exact ih3 _ _)
      | (with_reducible exact ih4 _ _)
      | (with_reducible exact ih5 _ _)
      | (with_reducible exact ih6 _ _)
      | (with_reducible exact ih7 _ _)
      | (with_reducible exact ih8 _ _)
      | (with_reducible exact ih9 _ _)
      | (with_reducible exact LeO.refl _)
      | (with_reducible exact LeO.none _)
      | (with_reducible refine LeO.ite ?_ ?_)
      | (with_reducible refine LeO.bind ?_ (fun _ => ?_))
      | exact ih0 _ _ _
      | exact ih1 _ _ _
      | exact ih2 _ _
      | exact ih3 _ _
      | exact ih4 _ _
      | exact ih5 _ _
      | exact ih6 _ _
      | exact ih7 _ _
      | exact ih8 _ _
      | exact ih9 _ _
      | exact LeO.none _
      | refine LeO.ite ?_ ?_
      | refine LeO.bind ?_ (fun _ => ?_)
theorem impl_kind.mono : ∀ a0 k, LeO (impl_kind.f k a0) (impl_kind.f (k + 1) a0) := by
  intro a0 k
  obtain ⟨ih0, ih1, ih2, ih3, ih4, ih5, ih6, ih7, ih8, ih9⟩ := impl_kind.mono_l k
  unfold impl_kind.f
  repeat' first
      | (with_reducible exact ih0 _ _ _)
      | (with_reducible exact ih1 _ _ _)
      | (with_reducible exact ih2 _ _)
      | (with_reducible exact ih3 _ _)
      | (with_reducible exact ih4 _ _)
      | (with_reducible exact ih5 _ _)
      | (with_reducible exact ih6 _ _)
      | (with_reducible exact ih7 _ _)
      | (with_reducible exact ih8 _ _)
      | (with_reducible exact ih9 _ _)
      | (with_reducible exact LeO.refl _)
      | (with_reducible exact LeO.none _)
      | (with_reducible refine LeO.ite ?_ ?_)
      | (with_reducible refine LeO.bind ?_ (fun _ => ?_))
      | exact ih0 _ _ _
      | exact ih1 _ _ _
      | exact ih2 _ _
      | exact ih3 _ _
      | exact ih4 _ _
      | exact ih5 _ _
      | exact ih6 _ _
      | exact ih7 _ _
      | exact ih8 _ _
      | exact ih9 _ _
      | exact LeO.none _
      | refine LeO.ite ?_ ?_
      | refine LeO.bind ?_ (fun _ => ?_)
set_option maxHeartbeats 8000000 in
set_option maxRecDepth 100000 in
theorem impl_kind.calls (k : Nat) (a0 : Int) (r1 : Int) (r2 : Int) (w : World) (h : impl_kind.f k a0 = some (r1, r2)) :
    Calls Tryd.prog 97 #[.int .i64 a0] w fun e w' => e = .returned (.tuple #[.int .i64 r1, .int .i64 r2]) ∧ Drawn0 w w' := by
  have H : ((impl_block.f a0).bind fun bt273 => (if bt273.1 > 0 then (if bt273.2 < 32 then (impl_kind.j0 k bt273.2 (bt273.1 / 256) true) else ((impl_in.f bt273.2 64 67).bind fun t275 => (impl_kind.j0 k bt273.2 (bt273.1 / 256) t275))) else ((impl_in.f a0 0 31).bind fun t280 => (if t280 = true then (impl_kind.j2 k a0 true) else ((impl_in.f a0 127 159).bind fun t281 => (impl_kind.j2 k a0 t281)))))) = some (r1, r2) := h
  clear h
  replace H := Option.bind_eq_some_iff.mp H
  obtain ⟨⟨t273, t274⟩, A20, H⟩ := H
  replace H : (if t273 > 0 then (if t274 < 32 then (impl_kind.j0 k t274 (t273 / 256) true) else ((impl_in.f t274 64 67).bind fun t275 => (impl_kind.j0 k t274 (t273 / 256) t275))) else ((impl_in.f a0 0 31).bind fun t280 => (if t280 = true then (impl_kind.j2 k a0 true) else ((impl_in.f a0 127 159).bind fun t281 => (impl_kind.j2 k a0 t281))))) = some (r1, r2) := H
  have A2 := am A20
  clear A20
  by_cases c3 : t273 > 0
  · rw [if_pos c3] at H
    have c3b0 : decide (0 < t273) = true := decide_eq_true c3
    clear c3
    have HC4 := am H
    clear H
    go_enter Tryd.func97, Tryd.ntmps97
    go_upto_region 4 with (first | ((with_reducible refine gate_callee (f := 125) rfl ?_); refine gl 9 Tryd.func125 #[.int .i64 a0] ?_; (with_reducible refine (impl_block.calls a0 t273 t274 _ A2.out).mono ?_); rintro e w' ⟨rfl, ⟨nd, rfl⟩⟩; refine ⟨_, rfl, ?_⟩))
    (try simp only [Act.put, List.setIfInBounds_toArray, List.set_cons_zero, List.set_cons_succ])
    go_cut [16] (fun v16 wc => ∃ (kq : Nat) (x16_3 : Bool), v16 = .bool x16_3 ∧ Aside0 (impl_kind.j0 kq t274 (t273 / 256) x16_3 = some (r1, r2)) ∧ Aside0 (kq ≤ k) ∧ Drawn0 w wc)
    case first =>
      as_aux_lemma =>
        have H := HC4.out
        clear HC4
        by_cases c5 : t274 < 32
        · rw [if_pos c5] at H
          have c5b0 : decide (t274 < 32) = true := decide_eq_true c5
          clear c5
          (first | rw [c5b0] | (simp only [i64_w, i32_w]; rw [c5b0]) | skip)
          have H' := am H
          clear H
          go_wp2
          go_meet
          case rel => exact ⟨_, (true), (by first | rfl | (simp; done) | (simp [*]; done)), H', ⟨by first | omega | exact Nat.le_refl _⟩, by repeat (first | exact Drawn0.refl _ | apply Drawn0.step)⟩
        · rw [if_neg c5] at H
          have c5b0 : decide (t274 < 32) = false := decide_eq_false c5
          clear c5
          (first | rw [c5b0] | (simp only [i64_w, i32_w]; rw [c5b0]) | skip)
          replace H := Option.bind_eq_some_iff.mp H
          obtain ⟨t275, A60, H⟩ := H
          replace H : (impl_kind.j0 k t274 (t273 / 256) t275) = some (r1, r2) := H
          have A6 := am A60
          clear A60
          have H' := am H
          clear H
          go_wp2_with (first | (go_at_call 99; (with_reducible refine (impl_in.calls t274 64 67 t275 _ A6.out).mono ?_); rintro e w' ⟨rfl, ⟨nd, rfl⟩⟩))
          go_meet
          case rel => exact ⟨_, (t275), (by first | rfl | (simp; done) | (simp [*]; done)), H', ⟨by first | omega | exact Nat.le_refl _⟩, by repeat (first | exact Drawn0.refl _ | apply Drawn0.step)⟩
    case rest =>
      as_aux_lemma =>
        clear HC4
        try clear c1
        try clear p2
        try clear c3
        try clear c3b0
        try clear c5
        try clear c5b0
        obtain ⟨kq, x16_3, rfl, HA, HJ3, ⟨mc3, rfl⟩⟩ := hcut
        cases kq with
        | zero => exact absurd HA.out (by simp [impl_kind.j0])
        | succ kj3 =>
          have H := HA.out
          clear HA
          simp only [impl_kind.j0] at H
          by_cases c7 : x16_3 = true
          · subst c7
            have H1 : (some (4, (t273 / 256))) = some (r1, r2) := by rw [if_pos rfl] at H; exact H
            clear H
            have H := H1
            clear H1
            simp only [Option.some.injEq, Prod.mk.injEq] at H
            obtain ⟨rfl, rfl⟩ := H
            go_wp2
            go_ret2
            exact rdd
          · replace c7 := Bool.eq_false_iff.mpr c7
            subst c7
            have H1 : (if t274 < 64 then (impl_kind.j1 kj3 t274 (t273 / 256) true) else ((impl_in.f t274 72 75).bind fun t276 => (if t276 = true then (impl_kind.j1 kj3 t274 (t273 / 256) true) else ((impl_in.f t274 96 97).bind fun t277 => (impl_kind.j1 kj3 t274 (t273 / 256) t277))))) = some (r1, r2) := by rw [if_neg (show ¬ (false = true) by decide)] at H; exact H
            clear H
            have H := H1
            clear H1
            have HC8 := am H
            clear H
            go_upto_region 6 with (fail)
            go_cut [24] (fun v24 wc => ∃ (kq : Nat) (x24_7 : Bool), v24 = .bool x24_7 ∧ Aside0 (impl_kind.j1 kq t274 (t273 / 256) x24_7 = some (r1, r2)) ∧ Aside0 (kq ≤ kj3) ∧ Drawn0 w wc)
            case first =>
              as_aux_lemma =>
                have H := HC8.out
                clear HC8
                by_cases c9 : t274 < 64
                · rw [if_pos c9] at H
                  have c9b0 : decide (t274 < 64) = true := decide_eq_true c9
                  clear c9
                  (first | rw [c9b0] | (simp only [i64_w, i32_w]; rw [c9b0]) | skip)
                  have H' := am H
                  clear H
                  go_wp2
                  go_meet
                  case rel => exact ⟨_, (true), (by first | rfl | (simp; done) | (simp [*]; done)), H', ⟨by have := HJ3.out; first | omega | exact Nat.le_refl _⟩, by repeat (first | exact Drawn0.refl _ | apply Drawn0.step)⟩
                · rw [if_neg c9] at H
                  have c9b0 : decide (t274 < 64) = false := decide_eq_false c9
                  clear c9
                  (first | rw [c9b0] | (simp only [i64_w, i32_w]; rw [c9b0]) | skip)
                  replace H := Option.bind_eq_some_iff.mp H
                  obtain ⟨t276, A100, H⟩ := H
                  replace H : (if t276 = true then (impl_kind.j1 kj3 t274 (t273 / 256) true) else ((impl_in.f t274 96 97).bind fun t277 => (impl_kind.j1 kj3 t274 (t273 / 256) t277))) = some (r1, r2) := H
                  have A10 := am A100
                  clear A100
                  by_cases c11 : t276 = true
                  · subst c11
                    have H1 : (impl_kind.j1 kj3 t274 (t273 / 256) true) = some (r1, r2) := by rw [if_pos rfl] at H; exact H
                    clear H
                    have H := H1
                    clear H1
                    have H' := am H
                    clear H
                    go_wp2_with (first | (go_at_call 99; (with_reducible refine (impl_in.calls t274 72 75 true _ A10.out).mono ?_); rintro e w' ⟨rfl, ⟨nd, rfl⟩⟩))
                    go_meet
                    case rel => exact ⟨_, (true), (by first | rfl | (simp; done) | (simp [*]; done)), H', ⟨by have := HJ3.out; first | omega | exact Nat.le_refl _⟩, by repeat (first | exact Drawn0.refl _ | apply Drawn0.step)⟩
                  · replace c11 := Bool.eq_false_iff.mpr c11
                    subst c11
                    have H1 : ((impl_in.f t274 96 97).bind fun t277 => (impl_kind.j1 kj3 t274 (t273 / 256) t277)) = some (r1, r2) := by rw [if_neg (show ¬ (false = true) by decide)] at H; exact H
                    clear H
                    have H := H1
                    clear H1
                    replace H := Option.bind_eq_some_iff.mp H
                    obtain ⟨t277, A120, H⟩ := H
                    replace H : (impl_kind.j1 kj3 t274 (t273 / 256) t277) = some (r1, r2) := H
                    have A12 := am A120
                    clear A120
                    have H' := am H
                    clear H
                    go_wp2_with (first | (go_at_call 99; (with_reducible refine (impl_in.calls t274 72 75 false _ A10.out).mono ?_); rintro e w' ⟨rfl, ⟨nd, rfl⟩⟩) | (go_at_call 99; (with_reducible refine (impl_in.calls t274 96 97 t277 _ A12.out).mono ?_); rintro e w' ⟨rfl, ⟨nd, rfl⟩⟩))
                    go_meet
                    case rel => exact ⟨_, (t277), (by first | rfl | (simp; done) | (simp [*]; done)), H', ⟨by have := HJ3.out; first | omega | exact Nat.le_refl _⟩, by repeat (first | exact Drawn0.refl _ | apply Drawn0.step)⟩
            case rest =>
              as_aux_lemma =>
                clear HC8
                try clear c1
                try clear p2
                try clear c3
                try clear c3b0
                try clear c5
                try clear c5b0
                try clear c7
                try clear c9
                try clear c9b0
                try clear c11
                try clear c12
                try clear p2
                obtain ⟨kq, x24_7, rfl, HA, HJ7, ⟨mc7, rfl⟩⟩ := hcut
                cases kq with
                | zero => exact absurd HA.out (by simp [impl_kind.j1])
                | succ kj7 =>
                  have H := HA.out
                  clear HA
                  simp only [impl_kind.j1] at H
                  by_cases c13 : x24_7 = true
                  · subst c13
                    have H1 : (some (5, (t273 / 256))) = some (r1, r2) := by rw [if_pos rfl] at H; exact H
                    clear H
                    have H := H1
                    clear H1
                    simp only [Option.some.injEq, Prod.mk.injEq] at H
                    obtain ⟨rfl, rfl⟩ := H
                    go_wp2
                    go_ret2
                    exact rdd
                  · replace c13 := Bool.eq_false_iff.mpr c13
                    subst c13
                    have H1 : ((impl_in.f t274 68 71).bind fun t278 => (if t278 = true then (some (6, (t273 / 256))) else ((impl_in.f t274 80 89).bind fun t279 => (if t279 = true then (some (8, (t273 / 256))) else (some (0, 0)))))) = some (r1, r2) := by rw [if_neg (show ¬ (false = true) by decide)] at H; exact H
                    clear H
                    have H := H1
                    clear H1
                    replace H := Option.bind_eq_some_iff.mp H
                    obtain ⟨t278, A140, H⟩ := H
                    replace H : (if t278 = true then (some (6, (t273 / 256))) else ((impl_in.f t274 80 89).bind fun t279 => (if t279 = true then (some (8, (t273 / 256))) else (some (0, 0))))) = some (r1, r2) := H
                    have A14 := am A140
                    clear A140
                    by_cases c15 : t278 = true
                    · subst c15
                      have H1 : (some (6, (t273 / 256))) = some (r1, r2) := by rw [if_pos rfl] at H; exact H
                      clear H
                      have H := H1
                      clear H1
                      simp only [Option.some.injEq, Prod.mk.injEq] at H
                      obtain ⟨rfl, rfl⟩ := H
                      go_wp2_with (first | ((with_reducible refine gate_callee (f := 99) rfl ?_); refine gl 38 Tryd.func99 #[.int .i64 t274, .int .i64 68, .int .i64 71] ?_; (with_reducible refine (impl_in.calls t274 68 71 true _ A14.out).mono ?_); rintro e w' ⟨rfl, ⟨nd, rfl⟩⟩; refine ⟨_, rfl, ?_⟩))
                      go_ret2
                      exact rdd
                    · replace c15 := Bool.eq_false_iff.mpr c15
                      subst c15
                      have H1 : ((impl_in.f t274 80 89).bind fun t279 => (if t279 = true then (some (8, (t273 / 256))) else (some (0, 0)))) = some (r1, r2) := by rw [if_neg (show ¬ (false = true) by decide)] at H; exact H
                      clear H
                      have H := H1
                      clear H1
                      replace H := Option.bind_eq_some_iff.mp H
                      obtain ⟨t279, A160, H⟩ := H
                      replace H : (if t279 = true then (some (8, (t273 / 256))) else (some (0, 0))) = some (r1, r2) := H
                      have A16 := am A160
                      clear A160
                      by_cases c17 : t279 = true
                      · subst c17
                        have H1 : (some (8, (t273 / 256))) = some (r1, r2) := by rw [if_pos rfl] at H; exact H
                        clear H
                        have H := H1
                        clear H1
                        simp only [Option.some.injEq, Prod.mk.injEq] at H
                        obtain ⟨rfl, rfl⟩ := H
                        go_wp2_with (first | ((with_reducible refine gate_callee (f := 99) rfl ?_); refine gl 38 Tryd.func99 #[.int .i64 t274, .int .i64 68, .int .i64 71] ?_; (with_reducible refine (impl_in.calls t274 68 71 false _ A14.out).mono ?_); rintro e w' ⟨rfl, ⟨nd, rfl⟩⟩; refine ⟨_, rfl, ?_⟩) | ((with_reducible refine gate_callee (f := 99) rfl ?_); refine gl 42 Tryd.func99 #[.int .i64 t274, .int .i64 80, .int .i64 89] ?_; (with_reducible refine (impl_in.calls t274 80 89 true _ A16.out).mono ?_); rintro e w' ⟨rfl, ⟨nd, rfl⟩⟩; refine ⟨_, rfl, ?_⟩))
                        go_ret2
                        exact rdd
                      · replace c17 := Bool.eq_false_iff.mpr c17
                        subst c17
                        have H1 : (some (0, 0)) = some (r1, r2) := by rw [if_neg (show ¬ (false = true) by decide)] at H; exact H
                        clear H
                        have H := H1
                        clear H1
                        simp only [Option.some.injEq, Prod.mk.injEq] at H
                        obtain ⟨rfl, rfl⟩ := H
                        go_wp2_with (first | ((with_reducible refine gate_callee (f := 99) rfl ?_); refine gl 38 Tryd.func99 #[.int .i64 t274, .int .i64 68, .int .i64 71] ?_; (with_reducible refine (impl_in.calls t274 68 71 false _ A14.out).mono ?_); rintro e w' ⟨rfl, ⟨nd, rfl⟩⟩; refine ⟨_, rfl, ?_⟩) | ((with_reducible refine gate_callee (f := 99) rfl ?_); refine gl 42 Tryd.func99 #[.int .i64 t274, .int .i64 80, .int .i64 89] ?_; (with_reducible refine (impl_in.calls t274 80 89 false _ A16.out).mono ?_); rintro e w' ⟨rfl, ⟨nd, rfl⟩⟩; refine ⟨_, rfl, ?_⟩))
                        go_ret2
                        exact rdd
  · rw [if_neg c3] at H
    have c3b0 : decide (0 < t273) = false := decide_eq_false c3
    clear c3
    have HC18 := am H
    clear H
    go_enter Tryd.func97, Tryd.ntmps97
    go_upto_region 13 with (first | ((with_reducible refine gate_callee (f := 125) rfl ?_); refine gl 9 Tryd.func125 #[.int .i64 a0] ?_; (with_reducible refine (impl_block.calls a0 t273 t274 _ A2.out).mono ?_); rintro e w' ⟨rfl, ⟨nd, rfl⟩⟩; refine ⟨_, rfl, ?_⟩))
    (try simp only [Act.put, List.setIfInBounds_toArray, List.set_cons_zero, List.set_cons_succ])
    go_cut [44] (fun v44 wc => ∃ (kq : Nat) (x44_17 : Bool), v44 = .bool x44_17 ∧ Aside0 (impl_kind.j2 kq a0 x44_17 = some (r1, r2)) ∧ Aside0 (kq ≤ k) ∧ Drawn0 w wc)
    case first =>
      as_aux_lemma =>
        have H := HC18.out
        clear HC18
        replace H := Option.bind_eq_some_iff.mp H
        obtain ⟨t280, A190, H⟩ := H
        replace H : (if t280 = true then (impl_kind.j2 k a0 true) else ((impl_in.f a0 127 159).bind fun t281 => (impl_kind.j2 k a0 t281))) = some (r1, r2) := H
        have A19 := am A190
        clear A190
        by_cases c20 : t280 = true
        · subst c20
          have H1 : (impl_kind.j2 k a0 true) = some (r1, r2) := by rw [if_pos rfl] at H; exact H
          clear H
          have H := H1
          clear H1
          have H' := am H
          clear H
          go_wp2_with (first | ((with_reducible refine gate_callee (f := 99) rfl ?_); refine gl 46 Tryd.func99 #[.int .i64 a0, .int .i64 0, .int .i64 31] ?_; (with_reducible refine (impl_in.calls a0 0 31 true _ A19.out).mono ?_); rintro e w' ⟨rfl, ⟨nd, rfl⟩⟩; refine ⟨_, rfl, ?_⟩))
          go_meet
          case rel => exact ⟨_, (true), (by first | rfl | (simp; done) | (simp [*]; done)), H', ⟨by first | omega | exact Nat.le_refl _⟩, by repeat (first | exact Drawn0.refl _ | apply Drawn0.step)⟩
        · replace c20 := Bool.eq_false_iff.mpr c20
          subst c20
          have H1 : ((impl_in.f a0 127 159).bind fun t281 => (impl_kind.j2 k a0 t281)) = some (r1, r2) := by rw [if_neg (show ¬ (false = true) by decide)] at H; exact H
          clear H
          have H := H1
          clear H1
          replace H := Option.bind_eq_some_iff.mp H
          obtain ⟨t281, A210, H⟩ := H
          replace H : (impl_kind.j2 k a0 t281) = some (r1, r2) := H
          have A21 := am A210
          clear A210
          have H' := am H
          clear H
          go_wp2_with (first | ((with_reducible refine gate_callee (f := 99) rfl ?_); refine gl 46 Tryd.func99 #[.int .i64 a0, .int .i64 0, .int .i64 31] ?_; (with_reducible refine (impl_in.calls a0 0 31 false _ A19.out).mono ?_); rintro e w' ⟨rfl, ⟨nd, rfl⟩⟩; refine ⟨_, rfl, ?_⟩) | (go_at_call 99; (with_reducible refine (impl_in.calls a0 127 159 t281 _ A21.out).mono ?_); rintro e w' ⟨rfl, ⟨nd, rfl⟩⟩))
          go_meet
          case rel => exact ⟨_, (t281), (by first | rfl | (simp; done) | (simp [*]; done)), H', ⟨by first | omega | exact Nat.le_refl _⟩, by repeat (first | exact Drawn0.refl _ | apply Drawn0.step)⟩
    case rest =>
      as_aux_lemma =>
        clear HC18
        try clear c1
        try clear c2
        try clear p2
        try clear c3
        try clear c3b0
        try clear c5
        try clear c5b0
        try clear c7
        try clear c9
        try clear c9b0
        try clear c11
        try clear c12
        try clear c13
        try clear c15
        try clear c17
        try clear c20
        try clear p2
        obtain ⟨kq, x44_17, rfl, HA, HJ17, ⟨mc17, rfl⟩⟩ := hcut
        cases kq with
        | zero => exact absurd HA.out (by simp [impl_kind.j2])
        | succ kj17 =>
          have H := HA.out
          clear HA
          simp only [impl_kind.j2] at H
          by_cases c22 : x44_17 = true
          · subst c22
            have H1 : (some (1, 0)) = some (r1, r2) := by rw [if_pos rfl] at H; exact H
            clear H
            have H := H1
            clear H1
            simp only [Option.some.injEq, Prod.mk.injEq] at H
            obtain ⟨rfl, rfl⟩ := H
            go_wp2
            go_ret2
            exact rdd
          · replace c22 := Bool.eq_false_iff.mpr c22
            subst c22
            have H1 : (if a0 = 32 then (impl_kind.j3 kj17 a0 true) else (if a0 = 160 then (impl_kind.j3 kj17 a0 true) else (impl_kind.j3 kj17 a0 (a0 == 8064)))) = some (r1, r2) := by rw [if_neg (show ¬ (false = true) by decide)] at H; exact H
            clear H
            have H := H1
            clear H1
            have HC23 := am H
            clear H
            go_upto_region 15 with (fail)
            go_cut [51] (fun v51 wc => ∃ (kq : Nat) (x51_22 : Bool), v51 = .bool x51_22 ∧ Aside0 (impl_kind.j3 kq a0 x51_22 = some (r1, r2)) ∧ Aside0 (kq ≤ kj17) ∧ Drawn0 w wc)
            case first =>
              as_aux_lemma =>
                have H := HC23.out
                clear HC23
                by_cases c24 : a0 = 32
                · rw [if_pos c24] at H
                  have c24b0 : (a0 == 32) = true := beq_iff_eq.mpr c24
                  have c24b1 : (a0 != 32) = false := bne_eq_false_iff_eq.mpr c24
                  clear c24
                  (first | rw [c24b0] | (simp only [i64_w, i32_w]; rw [c24b0]) | skip)
                  have H' := am H
                  clear H
                  go_wp2
                  go_meet
                  case rel => exact ⟨_, (true), (by first | rfl | (simp; done) | (simp [*]; done)), H', ⟨by have := HJ17.out; first | omega | exact Nat.le_refl _⟩, by repeat (first | exact Drawn0.refl _ | apply Drawn0.step)⟩
                · rw [if_neg c24] at H
                  have c24b0 : (a0 == 32) = false := beq_eq_false_iff_ne.mpr c24
                  have c24b1 : (a0 != 32) = true := bne_iff_ne.mpr c24
                  (first | rw [c24b0] | (simp only [i64_w, i32_w]; rw [c24b0]) | skip)
                  by_cases c25 : a0 = 160
                  · rw [if_pos c25] at H
                    have c25b0 : (a0 == 160) = true := beq_iff_eq.mpr c25
                    have c25b1 : (a0 != 160) = false := bne_eq_false_iff_eq.mpr c25
                    clear c25
                    have H' := am H
                    clear H
                    go_wp2
                    go_meet
                    case rel => exact ⟨_, (true), (by first | rfl | (simp; done) | (simp [*]; done)), H', ⟨by have := HJ17.out; first | omega | exact Nat.le_refl _⟩, by repeat (first | exact Drawn0.refl _ | apply Drawn0.step)⟩
                  · rw [if_neg c25] at H
                    have c25b0 : (a0 == 160) = false := beq_eq_false_iff_ne.mpr c25
                    have c25b1 : (a0 != 160) = true := bne_iff_ne.mpr c25
                    have H' := am H
                    clear H
                    go_wp2
                    go_meet
                    case rel => exact ⟨_, ((a0 == 8064)), (by first | rfl | (simp; done) | (simp [*]; done)), H', ⟨by have := HJ17.out; first | omega | exact Nat.le_refl _⟩, by repeat (first | exact Drawn0.refl _ | apply Drawn0.step)⟩
            case rest =>
              as_aux_lemma =>
                clear HC23
                try clear c1
                try clear c2
                try clear p2
                try clear c3
                try clear c3b0
                try clear c5
                try clear c5b0
                try clear c7
                try clear c9
                try clear c9b0
                try clear c11
                try clear c12
                try clear c13
                try clear c15
                try clear c17
                try clear c20
                try clear c22
                try clear c24
                try clear c24b0
                try clear c24b1
                try clear c25
                try clear c25b0
                try clear c25b1
                try clear p2
                obtain ⟨kq, x51_22, rfl, HA, HJ22, ⟨mc22, rfl⟩⟩ := hcut
                cases kq with
                | zero => exact absurd HA.out (by simp [impl_kind.j3])
                | succ kj22 =>
                  have H := HA.out
                  clear HA
                  simp only [impl_kind.j3] at H
                  by_cases c26 : x51_22 = true
                  · subst c26
                    have H1 : (some (2, 0)) = some (r1, r2) := by rw [if_pos rfl] at H; exact H
                    clear H
                    have H := H1
                    clear H1
                    simp only [Option.some.injEq, Prod.mk.injEq] at H
                    obtain ⟨rfl, rfl⟩ := H
                    go_wp2
                    go_ret2
                    exact rdd
                  · replace c26 := Bool.eq_false_iff.mpr c26
                    subst c26
                    have H1 : ((impl_in.f a0 48 57).bind fun t282 => (if t282 = true then (some (8, 0)) else ((impl_in.f a0 65 90).bind fun t283 => (if t283 = true then (some (4, 1)) else ((impl_in.f a0 97 122).bind fun t284 => (if t284 = true then (some (5, 1)) else ((impl_in.f a0 33 126).bind fun t285 => (if t285 = true then (some (9, 0)) else (if a0 = 173 then (some (11, 0)) else ((impl_in.f a0 161 191).bind fun t286 => (if t286 = true then (some (10, 0)) else ((impl_in.f a0 1280 1311).bind fun t287 => (if t287 = true then (some (7, 5)) else ((impl_in.f a0 1360 1369).bind fun t288 => (if t288 = true then (some (8, 5)) else ((impl_in.f a0 1536 1567).bind fun t289 => (if t289 = true then (some (7, 6)) else ((impl_in.f a0 1568 1579).bind fun t290 => (if t290 = true then (impl_kind.j4 kj22 a0 true) else (if a0 = 1584 then (impl_kind.j4 kj22 a0 true) else (impl_kind.j4 kj22 a0 (a0 == 1585)))))))))))))))))))))) = some (r1, r2) := by rw [if_neg (show ¬ (false = true) by decide)] at H; exact H
                    clear H
                    have H := H1
                    clear H1
                    replace H := Option.bind_eq_some_iff.mp H
                    obtain ⟨t282, A270, H⟩ := H
                    replace H : (if t282 = true then (some (8, 0)) else ((impl_in.f a0 65 90).bind fun t283 => (if t283 = true then (some (4, 1)) else ((impl_in.f a0 97 122).bind fun t284 => (if t284 = true then (some (5, 1)) else ((impl_in.f a0 33 126).bind fun t285 => (if t285 = true then (some (9, 0)) else (if a0 = 173 then (some (11, 0)) else ((impl_in.f a0 161 191).bind fun t286 => (if t286 = true then (some (10, 0)) else ((impl_in.f a0 1280 1311).bind fun t287 => (if t287 = true then (some (7, 5)) else ((impl_in.f a0 1360 1369).bind fun t288 => (if t288 = true then (some (8, 5)) else ((impl_in.f a0 1536 1567).bind fun t289 => (if t289 = true then (some (7, 6)) else ((impl_in.f a0 1568 1579).bind fun t290 => (if t290 = true then (impl_kind.j4 kj22 a0 true) else (if a0 = 1584 then (impl_kind.j4 kj22 a0 true) else (impl_kind.j4 kj22 a0 (a0 == 1585))))))))))))))))))))) = some (r1, r2) := H
                    have A27 := am A270
                    clear A270
                    by_cases c28 : t282 = true
                    · subst c28
                      have H1 : (some (8, 0)) = some (r1, r2) := by rw [if_pos rfl] at H; exact H
                      clear H
                      have H := H1
                      clear H1
                      simp only [Option.some.injEq, Prod.mk.injEq] at H
                      obtain ⟨rfl, rfl⟩ := H
                      go_wp2_with (first | ((with_reducible refine gate_callee (f := 99) rfl ?_); refine gl 64 Tryd.func99 #[.int .i64 a0, .int .i64 48, .int .i64 57] ?_; (with_reducible refine (impl_in.calls a0 48 57 true _ A27.out).mono ?_); rintro e w' ⟨rfl, ⟨nd, rfl⟩⟩; refine ⟨_, rfl, ?_⟩))
                      go_ret2
                      exact rdd
                    · replace c28 := Bool.eq_false_iff.mpr c28
                      subst c28
                      have H1 : ((impl_in.f a0 65 90).bind fun t283 => (if t283 = true then (some (4, 1)) else ((impl_in.f a0 97 122).bind fun t284 => (if t284 = true then (some (5, 1)) else ((impl_in.f a0 33 126).bind fun t285 => (if t285 = true then (some (9, 0)) else (if a0 = 173 then (some (11, 0)) else ((impl_in.f a0 161 191).bind fun t286 => (if t286 = true then (some (10, 0)) else ((impl_in.f a0 1280 1311).bind fun t287 => (if t287 = true then (some (7, 5)) else ((impl_in.f a0 1360 1369).bind fun t288 => (if t288 = true then (some (8, 5)) else ((impl_in.f a0 1536 1567).bind fun t289 => (if t289 = true then (some (7, 6)) else ((impl_in.f a0 1568 1579).bind fun t290 => (if t290 = true then (impl_kind.j4 kj22 a0 true) else (if a0 = 1584 then (impl_kind.j4 kj22 a0 true) else (impl_kind.j4 kj22 a0 (a0 == 1585)))))))))))))))))))) = some (r1, r2) := by rw [if_neg (show ¬ (false = true) by decide)] at H; exact H
                      clear H
                      have H := H1
                      clear H1
                      replace H := Option.bind_eq_some_iff.mp H
                      obtain ⟨t283, A290, H⟩ := H
                      replace H : (if t283 = true then (some (4, 1)) else ((impl_in.f a0 97 122).bind fun t284 => (if t284 = true then (some (5, 1)) else ((impl_in.f a0 33 126).bind fun t285 => (if t285 = true then (some (9, 0)) else (if a0 = 173 then (some (11, 0)) else ((impl_in.f a0 161 191).bind fun t286 => (if t286 = true then (some (10, 0)) else ((impl_in.f a0 1280 1311).bind fun t287 => (if t287 = true then (some (7, 5)) else ((impl_in.f a0 1360 1369).bind fun t288 => (if t288 = true then (some (8, 5)) else ((impl_in.f a0 1536 1567).bind fun t289 => (if t289 = true then (some (7, 6)) else ((impl_in.f a0 1568 1579).bind fun t290 => (if t290 = true then (impl_kind.j4 kj22 a0 true) else (if a0 = 1584 then (impl_kind.j4 kj22 a0 true) else (impl_kind.j4 kj22 a0 (a0 == 1585))))))))))))))))))) = some (r1, r2) := H
                      have A29 := am A290
                      clear A290
                      by_cases c30 : t283 = true
                      · subst c30
                        have H1 : (some (4, 1)) = some (r1, r2) := by rw [if_pos rfl] at H; exact H
                        clear H
                        have H := H1
                        clear H1
                        simp only [Option.some.injEq, Prod.mk.injEq] at H
                        obtain ⟨rfl, rfl⟩ := H
                        go_wp2_with (first | ((with_reducible refine gate_callee (f := 99) rfl ?_); refine gl 64 Tryd.func99 #[.int .i64 a0, .int .i64 48, .int .i64 57] ?_; (with_reducible refine (impl_in.calls a0 48 57 false _ A27.out).mono ?_); rintro e w' ⟨rfl, ⟨nd, rfl⟩⟩; refine ⟨_, rfl, ?_⟩) | ((with_reducible refine gate_callee (f := 99) rfl ?_); refine gl 67 Tryd.func99 #[.int .i64 a0, .int .i64 65, .int .i64 90] ?_; (with_reducible refine (impl_in.calls a0 65 90 true _ A29.out).mono ?_); rintro e w' ⟨rfl, ⟨nd, rfl⟩⟩; refine ⟨_, rfl, ?_⟩))
                        go_ret2
                        exact rdd
                      · replace c30 := Bool.eq_false_iff.mpr c30
                        subst c30
                        have H1 : ((impl_in.f a0 97 122).bind fun t284 => (if t284 = true then (some (5, 1)) else ((impl_in.f a0 33 126).bind fun t285 => (if t285 = true then (some (9, 0)) else (if a0 = 173 then (some (11, 0)) else ((impl_in.f a0 161 191).bind fun t286 => (if t286 = true then (some (10, 0)) else ((impl_in.f a0 1280 1311).bind fun t287 => (if t287 = true then (some (7, 5)) else ((impl_in.f a0 1360 1369).bind fun t288 => (if t288 = true then (some (8, 5)) else ((impl_in.f a0 1536 1567).bind fun t289 => (if t289 = true then (some (7, 6)) else ((impl_in.f a0 1568 1579).bind fun t290 => (if t290 = true then (impl_kind.j4 kj22 a0 true) else (if a0 = 1584 then (impl_kind.j4 kj22 a0 true) else (impl_kind.j4 kj22 a0 (a0 == 1585)))))))))))))))))) = some (r1, r2) := by rw [if_neg (show ¬ (false = true) by decide)] at H; exact H
                        clear H
                        have H := H1
                        clear H1
                        replace H := Option.bind_eq_some_iff.mp H
                        obtain ⟨t284, A310, H⟩ := H
                        replace H : (if t284 = true then (some (5, 1)) else ((impl_in.f a0 33 126).bind fun t285 => (if t285 = true then (some (9, 0)) else (if a0 = 173 then (some (11, 0)) else ((impl_in.f a0 161 191).bind fun t286 => (if t286 = true then (some (10, 0)) else ((impl_in.f a0 1280 1311).bind fun t287 => (if t287 = true then (some (7, 5)) else ((impl_in.f a0 1360 1369).bind fun t288 => (if t288 = true then (some (8, 5)) else ((impl_in.f a0 1536 1567).bind fun t289 => (if t289 = true then (some (7, 6)) else ((impl_in.f a0 1568 1579).bind fun t290 => (if t290 = true then (impl_kind.j4 kj22 a0 true) else (if a0 = 1584 then (impl_kind.j4 kj22 a0 true) else (impl_kind.j4 kj22 a0 (a0 == 1585))))))))))))))))) = some (r1, r2) := H
                        have A31 := am A310
                        clear A310
                        by_cases c32 : t284 = true
                        · subst c32
                          have H1 : (some (5, 1)) = some (r1, r2) := by rw [if_pos rfl] at H; exact H
                          clear H
                          have H := H1
                          clear H1
                          simp only [Option.some.injEq, Prod.mk.injEq] at H
                          obtain ⟨rfl, rfl⟩ := H
                          go_wp2_with (first | ((with_reducible refine gate_callee (f := 99) rfl ?_); refine gl 64 Tryd.func99 #[.int .i64 a0, .int .i64 48, .int .i64 57] ?_; (with_reducible refine (impl_in.calls a0 48 57 false _ A27.out).mono ?_); rintro e w' ⟨rfl, ⟨nd, rfl⟩⟩; refine ⟨_, rfl, ?_⟩) | ((with_reducible refine gate_callee (f := 99) rfl ?_); refine gl 67 Tryd.func99 #[.int .i64 a0, .int .i64 65, .int .i64 90] ?_; (with_reducible refine (impl_in.calls a0 65 90 false _ A29.out).mono ?_); rintro e w' ⟨rfl, ⟨nd, rfl⟩⟩; refine ⟨_, rfl, ?_⟩) | ((with_reducible refine gate_callee (f := 99) rfl ?_); refine gl 70 Tryd.func99 #[.int .i64 a0, .int .i64 97, .int .i64 122] ?_; (with_reducible refine (impl_in.calls a0 97 122 true _ A31.out).mono ?_); rintro e w' ⟨rfl, ⟨nd, rfl⟩⟩; refine ⟨_, rfl, ?_⟩))
                          go_ret2
                          exact rdd
                        · replace c32 := Bool.eq_false_iff.mpr c32
                          subst c32
                          have H1 : ((impl_in.f a0 33 126).bind fun t285 => (if t285 = true then (some (9, 0)) else (if a0 = 173 then (some (11, 0)) else ((impl_in.f a0 161 191).bind fun t286 => (if t286 = true then (some (10, 0)) else ((impl_in.f a0 1280 1311).bind fun t287 => (if t287 = true then (some (7, 5)) else ((impl_in.f a0 1360 1369).bind fun t288 => (if t288 = true then (some (8, 5)) else ((impl_in.f a0 1536 1567).bind fun t289 => (if t289 = true then (some (7, 6)) else ((impl_in.f a0 1568 1579).bind fun t290 => (if t290 = true then (impl_kind.j4 kj22 a0 true) else (if a0 = 1584 then (impl_kind.j4 kj22 a0 true) else (impl_kind.j4 kj22 a0 (a0 == 1585)))))))))))))))) = some (r1, r2) := by rw [if_neg (show ¬ (false = true) by decide)] at H; exact H
                          clear H
                          have H := H1
                          clear H1
                          replace H := Option.bind_eq_some_iff.mp H
                          obtain ⟨t285, A330, H⟩ := H
                          replace H : (if t285 = true then (some (9, 0)) else (if a0 = 173 then (some (11, 0)) else ((impl_in.f a0 161 191).bind fun t286 => (if t286 = true then (some (10, 0)) else ((impl_in.f a0 1280 1311).bind fun t287 => (if t287 = true then (some (7, 5)) else ((impl_in.f a0 1360 1369).bind fun t288 => (if t288 = true then (some (8, 5)) else ((impl_in.f a0 1536 1567).bind fun t289 => (if t289 = true then (some (7, 6)) else ((impl_in.f a0 1568 1579).bind fun t290 => (if t290 = true then (impl_kind.j4 kj22 a0 true) else (if a0 = 1584 then (impl_kind.j4 kj22 a0 true) else (impl_kind.j4 kj22 a0 (a0 == 1585))))))))))))))) = some (r1, r2) := H
                          have A33 := am A330
                          clear A330
                          by_cases c34 : t285 = true
                          · subst c34
                            have H1 : (some (9, 0)) = some (r1, r2) := by rw [if_pos rfl] at H; exact H
                            clear H
                            have H := H1
                            clear H1
                            simp only [Option.some.injEq, Prod.mk.injEq] at H
                            obtain ⟨rfl, rfl⟩ := H
                            go_wp2_with (first | ((with_reducible refine gate_callee (f := 99) rfl ?_); refine gl 64 Tryd.func99 #[.int .i64 a0, .int .i64 48, .int .i64 57] ?_; (with_reducible refine (impl_in.calls a0 48 57 false _ A27.out).mono ?_); rintro e w' ⟨rfl, ⟨nd, rfl⟩⟩; refine ⟨_, rfl, ?_⟩) | ((with_reducible refine gate_callee (f := 99) rfl ?_); refine gl 67 Tryd.func99 #[.int .i64 a0, .int .i64 65, .int .i64 90] ?_; (with_reducible refine (impl_in.calls a0 65 90 false _ A29.out).mono ?_); rintro e w' ⟨rfl, ⟨nd, rfl⟩⟩; refine ⟨_, rfl, ?_⟩) | ((with_reducible refine gate_callee (f := 99) rfl ?_); refine gl 70 Tryd.func99 #[.int .i64 a0, .int .i64 97, .int .i64 122] ?_; (with_reducible refine (impl_in.calls a0 97 122 false _ A31.out).mono ?_); rintro e w' ⟨rfl, ⟨nd, rfl⟩⟩; refine ⟨_, rfl, ?_⟩) | ((with_reducible refine gate_callee (f := 99) rfl ?_); refine gl 73 Tryd.func99 #[.int .i64 a0, .int .i64 33, .int .i64 126] ?_; (with_reducible refine (impl_in.calls a0 33 126 true _ A33.out).mono ?_); rintro e w' ⟨rfl, ⟨nd, rfl⟩⟩; refine ⟨_, rfl, ?_⟩))
                            go_ret2
                            exact rdd
                          · replace c34 := Bool.eq_false_iff.mpr c34
                            subst c34
                            have H1 : (if a0 = 173 then (some (11, 0)) else ((impl_in.f a0 161 191).bind fun t286 => (if t286 = true then (some (10, 0)) else ((impl_in.f a0 1280 1311).bind fun t287 => (if t287 = true then (some (7, 5)) else ((impl_in.f a0 1360 1369).bind fun t288 => (if t288 = true then (some (8, 5)) else ((impl_in.f a0 1536 1567).bind fun t289 => (if t289 = true then (some (7, 6)) else ((impl_in.f a0 1568 1579).bind fun t290 => (if t290 = true then (impl_kind.j4 kj22 a0 true) else (if a0 = 1584 then (impl_kind.j4 kj22 a0 true) else (impl_kind.j4 kj22 a0 (a0 == 1585)))))))))))))) = some (r1, r2) := by rw [if_neg (show ¬ (false = true) by decide)] at H; exact H
                            clear H
                            have H := H1
                            clear H1
                            by_cases c35 : a0 = 173
                            · rw [if_pos c35] at H
                              have c35b0 : (a0 == 173) = true := beq_iff_eq.mpr c35
                              have c35b1 : (a0 != 173) = false := bne_eq_false_iff_eq.mpr c35
                              clear c35
                              simp only [Option.some.injEq, Prod.mk.injEq] at H
                              obtain ⟨rfl, rfl⟩ := H
                              go_wp2_with (first | ((with_reducible refine gate_callee (f := 99) rfl ?_); refine gl 64 Tryd.func99 #[.int .i64 a0, .int .i64 48, .int .i64 57] ?_; (with_reducible refine (impl_in.calls a0 48 57 false _ A27.out).mono ?_); rintro e w' ⟨rfl, ⟨nd, rfl⟩⟩; refine ⟨_, rfl, ?_⟩) | ((with_reducible refine gate_callee (f := 99) rfl ?_); refine gl 67 Tryd.func99 #[.int .i64 a0, .int .i64 65, .int .i64 90] ?_; (with_reducible refine (impl_in.calls a0 65 90 false _ A29.out).mono ?_); rintro e w' ⟨rfl, ⟨nd, rfl⟩⟩; refine ⟨_, rfl, ?_⟩) | ((with_reducible refine gate_callee (f := 99) rfl ?_); refine gl 70 Tryd.func99 #[.int .i64 a0, .int .i64 97, .int .i64 122] ?_; (with_reducible refine (impl_in.calls a0 97 122 false _ A31.out).mono ?_); rintro e w' ⟨rfl, ⟨nd, rfl⟩⟩; refine ⟨_, rfl, ?_⟩) | ((with_reducible refine gate_callee (f := 99) rfl ?_); refine gl 73 Tryd.func99 #[.int .i64 a0, .int .i64 33, .int .i64 126] ?_; (with_reducible refine (impl_in.calls a0 33 126 false _ A33.out).mono ?_); rintro e w' ⟨rfl, ⟨nd, rfl⟩⟩; refine ⟨_, rfl, ?_⟩))
                              go_ret2
                              exact rdd
                            · rw [if_neg c35] at H
                              have c35b0 : (a0 == 173) = false := beq_eq_false_iff_ne.mpr c35
                              have c35b1 : (a0 != 173) = true := bne_iff_ne.mpr c35
                              replace H := Option.bind_eq_some_iff.mp H
                              obtain ⟨t286, A360, H⟩ := H
                              replace H : (if t286 = true then (some (10, 0)) else ((impl_in.f a0 1280 1311).bind fun t287 => (if t287 = true then (some (7, 5)) else ((impl_in.f a0 1360 1369).bind fun t288 => (if t288 = true then (some (8, 5)) else ((impl_in.f a0 1536 1567).bind fun t289 => (if t289 = true then (some (7, 6)) else ((impl_in.f a0 1568 1579).bind fun t290 => (if t290 = true then (impl_kind.j4 kj22 a0 true) else (if a0 = 1584 then (impl_kind.j4 kj22 a0 true) else (impl_kind.j4 kj22 a0 (a0 == 1585)))))))))))) = some (r1, r2) := H
                              have A36 := am A360
                              clear A360
                              by_cases c37 : t286 = true
                              · subst c37
                                have H1 : (some (10, 0)) = some (r1, r2) := by rw [if_pos rfl] at H; exact H
                                clear H
                                have H := H1
                                clear H1
                                simp only [Option.some.injEq, Prod.mk.injEq] at H
                                obtain ⟨rfl, rfl⟩ := H
                                go_wp2_with (first | ((with_reducible refine gate_callee (f := 99) rfl ?_); refine gl 64 Tryd.func99 #[.int .i64 a0, .int .i64 48, .int .i64 57] ?_; (with_reducible refine (impl_in.calls a0 48 57 false _ A27.out).mono ?_); rintro e w' ⟨rfl, ⟨nd, rfl⟩⟩; refine ⟨_, rfl, ?_⟩) | ((with_reducible refine gate_callee (f := 99) rfl ?_); refine gl 67 Tryd.func99 #[.int .i64 a0, .int .i64 65, .int .i64 90] ?_; (with_reducible refine (impl_in.calls a0 65 90 false _ A29.out).mono ?_); rintro e w' ⟨rfl, ⟨nd, rfl⟩⟩; refine ⟨_, rfl, ?_⟩) | ((with_reducible refine gate_callee (f := 99) rfl ?_); refine gl 70 Tryd.func99 #[.int .i64 a0, .int .i64 97, .int .i64 122] ?_; (with_reducible refine (impl_in.calls a0 97 122 false _ A31.out).mono ?_); rintro e w' ⟨rfl, ⟨nd, rfl⟩⟩; refine ⟨_, rfl, ?_⟩) | ((with_reducible refine gate_callee (f := 99) rfl ?_); refine gl 73 Tryd.func99 #[.int .i64 a0, .int .i64 33, .int .i64 126] ?_; (with_reducible refine (impl_in.calls a0 33 126 false _ A33.out).mono ?_); rintro e w' ⟨rfl, ⟨nd, rfl⟩⟩; refine ⟨_, rfl, ?_⟩) | ((with_reducible refine gate_callee (f := 99) rfl ?_); refine gl 79 Tryd.func99 #[.int .i64 a0, .int .i64 161, .int .i64 191] ?_; (with_reducible refine (impl_in.calls a0 161 191 true _ A36.out).mono ?_); rintro e w' ⟨rfl, ⟨nd, rfl⟩⟩; refine ⟨_, rfl, ?_⟩))
                                go_ret2
                                exact rdd
                              · replace c37 := Bool.eq_false_iff.mpr c37
                                subst c37
                                have H1 : ((impl_in.f a0 1280 1311).bind fun t287 => (if t287 = true then (some (7, 5)) else ((impl_in.f a0 1360 1369).bind fun t288 => (if t288 = true then (some (8, 5)) else ((impl_in.f a0 1536 1567).bind fun t289 => (if t289 = true then (some (7, 6)) else ((impl_in.f a0 1568 1579).bind fun t290 => (if t290 = true then (impl_kind.j4 kj22 a0 true) else (if a0 = 1584 then (impl_kind.j4 kj22 a0 true) else (impl_kind.j4 kj22 a0 (a0 == 1585))))))))))) = some (r1, r2) := by rw [if_neg (show ¬ (false = true) by decide)] at H; exact H
                                clear H
                                have H := H1
                                clear H1
                                replace H := Option.bind_eq_some_iff.mp H
                                obtain ⟨t287, A380, H⟩ := H
                                replace H : (if t287 = true then (some (7, 5)) else ((impl_in.f a0 1360 1369).bind fun t288 => (if t288 = true then (some (8, 5)) else ((impl_in.f a0 1536 1567).bind fun t289 => (if t289 = true then (some (7, 6)) else ((impl_in.f a0 1568 1579).bind fun t290 => (if t290 = true then (impl_kind.j4 kj22 a0 true) else (if a0 = 1584 then (impl_kind.j4 kj22 a0 true) else (impl_kind.j4 kj22 a0 (a0 == 1585)))))))))) = some (r1, r2) := H
                                have A38 := am A380
                                clear A380
                                by_cases c39 : t287 = true
                                · subst c39
                                  have H1 : (some (7, 5)) = some (r1, r2) := by rw [if_pos rfl] at H; exact H
                                  clear H
                                  have H := H1
                                  clear H1
                                  simp only [Option.some.injEq, Prod.mk.injEq] at H
                                  obtain ⟨rfl, rfl⟩ := H
                                  go_wp2_with (first | ((with_reducible refine gate_callee (f := 99) rfl ?_); refine gl 64 Tryd.func99 #[.int .i64 a0, .int .i64 48, .int .i64 57] ?_; (with_reducible refine (impl_in.calls a0 48 57 false _ A27.out).mono ?_); rintro e w' ⟨rfl, ⟨nd, rfl⟩⟩; refine ⟨_, rfl, ?_⟩) | ((with_reducible refine gate_callee (f := 99) rfl ?_); refine gl 67 Tryd.func99 #[.int .i64 a0, .int .i64 65, .int .i64 90] ?_; (with_reducible refine (impl_in.calls a0 65 90 false _ A29.out).mono ?_); rintro e w' ⟨rfl, ⟨nd, rfl⟩⟩; refine ⟨_, rfl, ?_⟩) | ((with_reducible refine gate_callee (f := 99) rfl ?_); refine gl 70 Tryd.func99 #[.int .i64 a0, .int .i64 97, .int .i64 122] ?_; (with_reducible refine (impl_in.calls a0 97 122 false _ A31.out).mono ?_); rintro e w' ⟨rfl, ⟨nd, rfl⟩⟩; refine ⟨_, rfl, ?_⟩) | ((with_reducible refine gate_callee (f := 99) rfl ?_); refine gl 73 Tryd.func99 #[.int .i64 a0, .int .i64 33, .int .i64 126] ?_; (with_reducible refine (impl_in.calls a0 33 126 false _ A33.out).mono ?_); rintro e w' ⟨rfl, ⟨nd, rfl⟩⟩; refine ⟨_, rfl, ?_⟩) | ((with_reducible refine gate_callee (f := 99) rfl ?_); refine gl 79 Tryd.func99 #[.int .i64 a0, .int .i64 161, .int .i64 191] ?_; (with_reducible refine (impl_in.calls a0 161 191 false _ A36.out).mono ?_); rintro e w' ⟨rfl, ⟨nd, rfl⟩⟩; refine ⟨_, rfl, ?_⟩) | ((with_reducible refine gate_callee (f := 99) rfl ?_); refine gl 82 Tryd.func99 #[.int .i64 a0, .int .i64 1280, .int .i64 1311] ?_; (with_reducible refine (impl_in.calls a0 1280 1311 true _ A38.out).mono ?_); rintro e w' ⟨rfl, ⟨nd, rfl⟩⟩; refine ⟨_, rfl, ?_⟩))
                                  go_ret2
                                  exact rdd
                                · replace c39 := Bool.eq_false_iff.mpr c39
                                  subst c39
                                  have H1 : ((impl_in.f a0 1360 1369).bind fun t288 => (if t288 = true then (some (8, 5)) else ((impl_in.f a0 1536 1567).bind fun t289 => (if t289 = true then (some (7, 6)) else ((impl_in.f a0 1568 1579).bind fun t290 => (if t290 = true then (impl_kind.j4 kj22 a0 true) else (if a0 = 1584 then (impl_kind.j4 kj22 a0 true) else (impl_kind.j4 kj22 a0 (a0 == 1585))))))))) = some (r1, r2) := by rw [if_neg (show ¬ (false = true) by decide)] at H; exact H
                                  clear H
                                  have H := H1
                                  clear H1
                                  replace H := Option.bind_eq_some_iff.mp H
                                  obtain ⟨t288, A400, H⟩ := H
                                  replace H : (if t288 = true then (some (8, 5)) else ((impl_in.f a0 1536 1567).bind fun t289 => (if t289 = true then (some (7, 6)) else ((impl_in.f a0 1568 1579).bind fun t290 => (if t290 = true then (impl_kind.j4 kj22 a0 true) else (if a0 = 1584 then (impl_kind.j4 kj22 a0 true) else (impl_kind.j4 kj22 a0 (a0 == 1585)))))))) = some (r1, r2) := H
                                  have A40 := am A400
                                  clear A400
                                  by_cases c41 : t288 = true
                                  · subst c41
                                    have H1 : (some (8, 5)) = some (r1, r2) := by rw [if_pos rfl] at H; exact H
                                    clear H
                                    have H := H1
                                    clear H1
                                    simp only [Option.some.injEq, Prod.mk.injEq] at H
                                    obtain ⟨rfl, rfl⟩ := H
                                    go_wp2_with (first | ((with_reducible refine gate_callee (f := 99) rfl ?_); refine gl 64 Tryd.func99 #[.int .i64 a0, .int .i64 48, .int .i64 57] ?_; (with_reducible refine (impl_in.calls a0 48 57 false _ A27.out).mono ?_); rintro e w' ⟨rfl, ⟨nd, rfl⟩⟩; refine ⟨_, rfl, ?_⟩) | ((with_reducible refine gate_callee (f := 99) rfl ?_); refine gl 67 Tryd.func99 #[.int .i64 a0, .int .i64 65, .int .i64 90] ?_; (with_reducible refine (impl_in.calls a0 65 90 false _ A29.out).mono ?_); rintro e w' ⟨rfl, ⟨nd, rfl⟩⟩; refine ⟨_, rfl, ?_⟩) | ((with_reducible refine gate_callee (f := 99) rfl ?_); refine gl 70 Tryd.func99 #[.int .i64 a0, .int .i64 97, .int .i64 122] ?_; (with_reducible refine (impl_in.calls a0 97 122 false _ A31.out).mono ?_); rintro e w' ⟨rfl, ⟨nd, rfl⟩⟩; refine ⟨_, rfl, ?_⟩) | ((with_reducible refine gate_callee (f := 99) rfl ?_); refine gl 73 Tryd.func99 #[.int .i64 a0, .int .i64 33, .int .i64 126] ?_; (with_reducible refine (impl_in.calls a0 33 126 false _ A33.out).mono ?_); rintro e w' ⟨rfl, ⟨nd, rfl⟩⟩; refine ⟨_, rfl, ?_⟩) | ((with_reducible refine gate_callee (f := 99) rfl ?_); refine gl 79 Tryd.func99 #[.int .i64 a0, .int .i64 161, .int .i64 191] ?_; (with_reducible refine (impl_in.calls a0 161 191 false _ A36.out).mono ?_); rintro e w' ⟨rfl, ⟨nd, rfl⟩⟩; refine ⟨_, rfl, ?_⟩) | ((with_reducible refine gate_callee (f := 99) rfl ?_); refine gl 82 Tryd.func99 #[.int .i64 a0, .int .i64 1280, .int .i64 1311] ?_; (with_reducible refine (impl_in.calls a0 1280 1311 false _ A38.out).mono ?_); rintro e w' ⟨rfl, ⟨nd, rfl⟩⟩; refine ⟨_, rfl, ?_⟩) | ((with_reducible refine gate_callee (f := 99) rfl ?_); refine gl 85 Tryd.func99 #[.int .i64 a0, .int .i64 1360, .int .i64 1369] ?_; (with_reducible refine (impl_in.calls a0 1360 1369 true _ A40.out).mono ?_); rintro e w' ⟨rfl, ⟨nd, rfl⟩⟩; refine ⟨_, rfl, ?_⟩))
                                    go_ret2
                                    exact rdd
                                  · replace c41 := Bool.eq_false_iff.mpr c41
                                    subst c41
                                    have H1 : ((impl_in.f a0 1536 1567).bind fun t289 => (if t289 = true then (some (7, 6)) else ((impl_in.f a0 1568 1579).bind fun t290 => (if t290 = true then (impl_kind.j4 kj22 a0 true) else (if a0 = 1584 then (impl_kind.j4 kj22 a0 true) else (impl_kind.j4 kj22 a0 (a0 == 1585))))))) = some (r1, r2) := by rw [if_neg (show ¬ (false = true) by decide)] at H; exact H
                                    clear H
                                    have H := H1
                                    clear H1
                                    replace H := Option.bind_eq_some_iff.mp H
                                    obtain ⟨t289, A420, H⟩ := H
                                    replace H : (if t289 = true then (some (7, 6)) else ((impl_in.f a0 1568 1579).bind fun t290 => (if t290 = true then (impl_kind.j4 kj22 a0 true) else (if a0 = 1584 then (impl_kind.j4 kj22 a0 true) else (impl_kind.j4 kj22 a0 (a0 == 1585)))))) = some (r1, r2) := H
                                    have A42 := am A420
                                    clear A420
                                    by_cases c43 : t289 = true
                                    · subst c43
                                      have H1 : (some (7, 6)) = some (r1, r2) := by rw [if_pos rfl] at H; exact H
                                      clear H
                                      have H := H1
                                      clear H1
                                      simp only [Option.some.injEq, Prod.mk.injEq] at H
                                      obtain ⟨rfl, rfl⟩ := H
                                      go_wp2_with (first | ((with_reducible refine gate_callee (f := 99) rfl ?_); refine gl 64 Tryd.func99 #[.int .i64 a0, .int .i64 48, .int .i64 57] ?_; (with_reducible refine (impl_in.calls a0 48 57 false _ A27.out).mono ?_); rintro e w' ⟨rfl, ⟨nd, rfl⟩⟩; refine ⟨_, rfl, ?_⟩) | ((with_reducible refine gate_callee (f := 99) rfl ?_); refine gl 67 Tryd.func99 #[.int .i64 a0, .int .i64 65, .int .i64 90] ?_; (with_reducible refine (impl_in.calls a0 65 90 false _ A29.out).mono ?_); rintro e w' ⟨rfl, ⟨nd, rfl⟩⟩; refine ⟨_, rfl, ?_⟩) | ((with_reducible refine gate_callee (f := 99) rfl ?_); refine gl 70 Tryd.func99 #[.int .i64 a0, .int .i64 97, .int .i64 122] ?_; (with_reducible refine (impl_in.calls a0 97 122 false _ A31.out).mono ?_); rintro e w' ⟨rfl, ⟨nd, rfl⟩⟩; refine ⟨_, rfl, ?_⟩) | ((with_reducible refine gate_callee (f := 99) rfl ?_); refine gl 73 Tryd.func99 #[.int .i64 a0, .int .i64 33, .int .i64 126] ?_; (with_reducible refine (impl_in.calls a0 33 126 false _ A33.out).mono ?_); rintro e w' ⟨rfl, ⟨nd, rfl⟩⟩; refine ⟨_, rfl, ?_⟩) | ((with_reducible refine gate_callee (f := 99) rfl ?_); refine gl 79 Tryd.func99 #[.int .i64 a0, .int .i64 161, .int .i64 191] ?_; (with_reducible refine (impl_in.calls a0 161 191 false _ A36.out).mono ?_); rintro e w' ⟨rfl, ⟨nd, rfl⟩⟩; refine ⟨_, rfl, ?_⟩) | ((with_reducible refine gate_callee (f := 99) rfl ?_); refine gl 82 Tryd.func99 #[.int .i64 a0, .int .i64 1280, .int .i64 1311] ?_; (with_reducible refine (impl_in.calls a0 1280 1311 false _ A38.out).mono ?_); rintro e w' ⟨rfl, ⟨nd, rfl⟩⟩; refine ⟨_, rfl, ?_⟩) | ((with_reducible refine gate_callee (f := 99) rfl ?_); refine gl 85 Tryd.func99 #[.int .i64 a0, .int .i64 1360, .int .i64 1369] ?_; (with_reducible refine (impl_in.calls a0 1360 1369 false _ A40.out).mono ?_); rintro e w' ⟨rfl, ⟨nd, rfl⟩⟩; refine ⟨_, rfl, ?_⟩) | ((with_reducible refine gate_callee (f := 99) rfl ?_); refine gl 88 Tryd.func99 #[.int .i64 a0, .int .i64 1536, .int .i64 1567] ?_; (with_reducible refine (impl_in.calls a0 1536 1567 true _ A42.out).mono ?_); rintro e w' ⟨rfl, ⟨nd, rfl⟩⟩; refine ⟨_, rfl, ?_⟩))
                                      go_ret2
                                      exact rdd
                                    · replace c43 := Bool.eq_false_iff.mpr c43
                                      subst c43
                                      have H1 : ((impl_in.f a0 1568 1579).bind fun t290 => (if t290 = true then (impl_kind.j4 kj22 a0 true) else (if a0 = 1584 then (impl_kind.j4 kj22 a0 true) else (impl_kind.j4 kj22 a0 (a0 == 1585))))) = some (r1, r2) := by rw [if_neg (show ¬ (false = true) by decide)] at H; exact H
                                      clear H
                                      have H := H1
                                      clear H1
                                      have HC44 := am H
                                      clear H
                                      go_upto_region 35 with (first | ((with_reducible refine gate_callee (f := 99) rfl ?_); refine gl 64 Tryd.func99 #[.int .i64 a0, .int .i64 48, .int .i64 57] ?_; (with_reducible refine (impl_in.calls a0 48 57 false _ A27.out).mono ?_); rintro e w' ⟨rfl, ⟨nd, rfl⟩⟩; refine ⟨_, rfl, ?_⟩) | ((with_reducible refine gate_callee (f := 99) rfl ?_); refine gl 67 Tryd.func99 #[.int .i64 a0, .int .i64 65, .int .i64 90] ?_; (with_reducible refine (impl_in.calls a0 65 90 false _ A29.out).mono ?_); rintro e w' ⟨rfl, ⟨nd, rfl⟩⟩; refine ⟨_, rfl, ?_⟩) | ((with_reducible refine gate_callee (f := 99) rfl ?_); refine gl 70 Tryd.func99 #[.int .i64 a0, .int .i64 97, .int .i64 122] ?_; (with_reducible refine (impl_in.calls a0 97 122 false _ A31.out).mono ?_); rintro e w' ⟨rfl, ⟨nd, rfl⟩⟩; refine ⟨_, rfl, ?_⟩) | ((with_reducible refine gate_callee (f := 99) rfl ?_); refine gl 73 Tryd.func99 #[.int .i64 a0, .int .i64 33, .int .i64 126] ?_; (with_reducible refine (impl_in.calls a0 33 126 false _ A33.out).mono ?_); rintro e w' ⟨rfl, ⟨nd, rfl⟩⟩; refine ⟨_, rfl, ?_⟩) | ((with_reducible refine gate_callee (f := 99) rfl ?_); refine gl 79 Tryd.func99 #[.int .i64 a0, .int .i64 161, .int .i64 191] ?_; (with_reducible refine (impl_in.calls a0 161 191 false _ A36.out).mono ?_); rintro e w' ⟨rfl, ⟨nd, rfl⟩⟩; refine ⟨_, rfl, ?_⟩) | ((with_reducible refine gate_callee (f := 99) rfl ?_); refine gl 82 Tryd.func99 #[.int .i64 a0, .int .i64 1280, .int .i64 1311] ?_; (with_reducible refine (impl_in.calls a0 1280 1311 false _ A38.out).mono ?_); rintro e w' ⟨rfl, ⟨nd, rfl⟩⟩; refine ⟨_, rfl, ?_⟩) | ((with_reducible refine gate_callee (f := 99) rfl ?_); refine gl 85 Tryd.func99 #[.int .i64 a0, .int .i64 1360, .int .i64 1369] ?_; (with_reducible refine (impl_in.calls a0 1360 1369 false _ A40.out).mono ?_); rintro e w' ⟨rfl, ⟨nd, rfl⟩⟩; refine ⟨_, rfl, ?_⟩) | ((with_reducible refine gate_callee (f := 99) rfl ?_); refine gl 88 Tryd.func99 #[.int .i64 a0, .int .i64 1536, .int .i64 1567] ?_; (with_reducible refine (impl_in.calls a0 1536 1567 false _ A42.out).mono ?_); rintro e w' ⟨rfl, ⟨nd, rfl⟩⟩; refine ⟨_, rfl, ?_⟩))
                                      (try simp only [Act.put, List.setIfInBounds_toArray, List.set_cons_zero, List.set_cons_succ])
                                      go_cut [89] (fun v89 wc => ∃ (kq : Nat) (x89_43 : Bool), v89 = .bool x89_43 ∧ Aside0 (impl_kind.j4 kq a0 x89_43 = some (r1, r2)) ∧ Aside0 (kq ≤ kj22) ∧ Drawn0 w wc)
                                      case first =>
                                        as_aux_lemma =>
                                          have H := HC44.out
                                          clear HC44
                                          replace H := Option.bind_eq_some_iff.mp H
                                          obtain ⟨t290, A450, H⟩ := H
                                          replace H : (if t290 = true then (impl_kind.j4 kj22 a0 true) else (if a0 = 1584 then (impl_kind.j4 kj22 a0 true) else (impl_kind.j4 kj22 a0 (a0 == 1585)))) = some (r1, r2) := H
                                          have A45 := am A450
                                          clear A450
                                          by_cases c46 : t290 = true
                                          · subst c46
                                            have H1 : (impl_kind.j4 kj22 a0 true) = some (r1, r2) := by rw [if_pos rfl] at H; exact H
                                            clear H
                                            have H := H1
                                            clear H1
                                            have H' := am H
                                            clear H
                                            go_wp2_with (first | ((with_reducible refine gate_callee (f := 99) rfl ?_); refine gl 91 Tryd.func99 #[.int .i64 a0, .int .i64 1568, .int .i64 1579] ?_; (with_reducible refine (impl_in.calls a0 1568 1579 true _ A45.out).mono ?_); rintro e w' ⟨rfl, ⟨nd, rfl⟩⟩; refine ⟨_, rfl, ?_⟩))
                                            go_meet
                                            case rel => exact ⟨_, (true), (by first | rfl | (simp; done) | (simp [*]; done)), H', ⟨by have := HJ17.out; have := HJ22.out; first | omega | exact Nat.le_refl _⟩, by repeat (first | exact Drawn0.refl _ | apply Drawn0.step)⟩
                                          · replace c46 := Bool.eq_false_iff.mpr c46
                                            subst c46
                                            have H1 : (if a0 = 1584 then (impl_kind.j4 kj22 a0 true) else (impl_kind.j4 kj22 a0 (a0 == 1585))) = some (r1, r2) := by rw [if_neg (show ¬ (false = true) by decide)] at H; exact H
                                            clear H
                                            have H := H1
                                            clear H1
                                            by_cases c47 : a0 = 1584
                                            · rw [if_pos c47] at H
                                              have c47b0 : (a0 == 1584) = true := beq_iff_eq.mpr c47
                                              have c47b1 : (a0 != 1584) = false := bne_eq_false_iff_eq.mpr c47
                                              clear c47
                                              (first | rw [c47b0] | (simp only [i64_w, i32_w]; rw [c47b0]) | skip)
                                              have H' := am H
                                              clear H
                                              go_wp2_with (first | ((with_reducible refine gate_callee (f := 99) rfl ?_); refine gl 91 Tryd.func99 #[.int .i64 a0, .int .i64 1568, .int .i64 1579] ?_; (with_reducible refine (impl_in.calls a0 1568 1579 false _ A45.out).mono ?_); rintro e w' ⟨rfl, ⟨nd, rfl⟩⟩; refine ⟨_, rfl, ?_⟩))
                                              go_meet
                                              case rel => exact ⟨_, (true), (by first | rfl | (simp; done) | (simp [*]; done)), H', ⟨by have := HJ17.out; have := HJ22.out; first | omega | exact Nat.le_refl _⟩, by repeat (first | exact Drawn0.refl _ | apply Drawn0.step)⟩
                                            · rw [if_neg c47] at H
                                              have c47b0 : (a0 == 1584) = false := beq_eq_false_iff_ne.mpr c47
                                              have c47b1 : (a0 != 1584) = true := bne_iff_ne.mpr c47
                                              (first | rw [c47b0] | (simp only [i64_w, i32_w]; rw [c47b0]) | skip)
                                              have H' := am H
                                              clear H
                                              go_wp2_with (first | ((with_reducible refine gate_callee (f := 99) rfl ?_); refine gl 91 Tryd.func99 #[.int .i64 a0, .int .i64 1568, .int .i64 1579] ?_; (with_reducible refine (impl_in.calls a0 1568 1579 false _ A45.out).mono ?_); rintro e w' ⟨rfl, ⟨nd, rfl⟩⟩; refine ⟨_, rfl, ?_⟩))
                                              go_meet
                                              case rel => exact ⟨_, ((a0 == 1585)), (by first | rfl | (simp; done) | (simp [*]; done)), H', ⟨by have := HJ17.out; have := HJ22.out; first | omega | exact Nat.le_refl _⟩, by repeat (first | exact Drawn0.refl _ | apply Drawn0.step)⟩
                                      case rest =>
                                        as_aux_lemma =>
                                          clear HC44
                                          try clear c1
                                          try clear c2
                                          try clear p2
                                          try clear c3
                                          try clear c3b0
                                          try clear c4
                                          try clear c5
                                          try clear c5b0
                                          try clear c7
                                          try clear c9
                                          try clear c9b0
                                          try clear c11
                                          try clear c12
                                          try clear c13
                                          try clear c15
                                          try clear c17
                                          try clear c20
                                          try clear c22
                                          try clear c24
                                          try clear c24b0
                                          try clear c24b1
                                          try clear c25
                                          try clear c25b0
                                          try clear c25b1
                                          try clear c26
                                          try clear c28
                                          try clear c30
                                          try clear c32
                                          try clear c34
                                          try clear c35
                                          try clear c35b0
                                          try clear c35b1
                                          try clear c37
                                          try clear c39
                                          try clear c41
                                          try clear c43
                                          try clear c46
                                          try clear c47
                                          try clear c47b0
                                          try clear c47b1
                                          try clear p2
                                          obtain ⟨kq, x89_43, rfl, HA, HJ43, ⟨mc43, rfl⟩⟩ := hcut
                                          cases kq with
                                          | zero => exact absurd HA.out (by simp [impl_kind.j4])
                                          | succ kj43 =>
                                            have H := HA.out
                                            clear HA
                                            simp only [impl_kind.j4] at H
                                            by_cases c48 : x89_43 = true
                                            · subst c48
                                              have H1 : (some (3, 6)) = some (r1, r2) := by rw [if_pos rfl] at H; exact H
                                              clear H
                                              have H := H1
                                              clear H1
                                              simp only [Option.some.injEq, Prod.mk.injEq] at H
                                              obtain ⟨rfl, rfl⟩ := H
                                              go_wp2
                                              go_ret2
                                              exact rdd
                                            · replace c48 := Bool.eq_false_iff.mpr c48
                                              subst c48
                                              have H1 : ((impl_in.f a0 1616 1625).bind fun t291 => (if t291 = true then (some (8, 6)) else ((impl_in.f a0 1792 1810).bind fun t292 => (if t292 = true then (impl_kind.j5 kj43 a0 true) else ((impl_in.f a0 1824 1844).bind fun t293 => (if t293 = true then (impl_kind.j5 kj43 a0 true) else ((impl_in.f a0 1857 1883).bind fun t294 => (if t294 = true then (impl_kind.j5 kj43 a0 true) else ((impl_in.f a0 12288 23459).bind fun t295 => (impl_kind.j5 kj43 a0 t295)))))))))) = some (r1, r2) := by rw [if_neg (show ¬ (false = true) by decide)] at H; exact H
                                              clear H
                                              have H := H1
                                              clear H1
                                              replace H := Option.bind_eq_some_iff.mp H
                                              obtain ⟨t291, A490, H⟩ := H
                                              replace H : (if t291 = true then (some (8, 6)) else ((impl_in.f a0 1792 1810).bind fun t292 => (if t292 = true then (impl_kind.j5 kj43 a0 true) else ((impl_in.f a0 1824 1844).bind fun t293 => (if t293 = true then (impl_kind.j5 kj43 a0 true) else ((impl_in.f a0 1857 1883).bind fun t294 => (if t294 = true then (impl_kind.j5 kj43 a0 true) else ((impl_in.f a0 12288 23459).bind fun t295 => (impl_kind.j5 kj43 a0 t295))))))))) = some (r1, r2) := H
                                              have A49 := am A490
                                              clear A490
                                              by_cases c50 : t291 = true
                                              · subst c50
                                                have H1 : (some (8, 6)) = some (r1, r2) := by rw [if_pos rfl] at H; exact H
                                                clear H
                                                have H := H1
                                                clear H1
                                                simp only [Option.some.injEq, Prod.mk.injEq] at H
                                                obtain ⟨rfl, rfl⟩ := H
                                                go_wp2_with (first | ((with_reducible refine gate_callee (f := 99) rfl ?_); refine gl 102 Tryd.func99 #[.int .i64 a0, .int .i64 1616, .int .i64 1625] ?_; (with_reducible refine (impl_in.calls a0 1616 1625 true _ A49.out).mono ?_); rintro e w' ⟨rfl, ⟨nd, rfl⟩⟩; refine ⟨_, rfl, ?_⟩))
                                                go_ret2
                                                exact rdd
                                              · replace c50 := Bool.eq_false_iff.mpr c50
                                                subst c50
                                                have H1 : ((impl_in.f a0 1792 1810).bind fun t292 => (if t292 = true then (impl_kind.j5 kj43 a0 true) else ((impl_in.f a0 1824 1844).bind fun t293 => (if t293 = true then (impl_kind.j5 kj43 a0 true) else ((impl_in.f a0 1857 1883).bind fun t294 => (if t294 = true then (impl_kind.j5 kj43 a0 true) else ((impl_in.f a0 12288 23459).bind fun t295 => (impl_kind.j5 kj43 a0 t295)))))))) = some (r1, r2) := by rw [if_neg (show ¬ (false = true) by decide)] at H; exact H
                                                clear H
                                                have H := H1
                                                clear H1
                                                have HC51 := am H
                                                clear H
                                                go_upto_region 39 with (first | ((with_reducible refine gate_callee (f := 99) rfl ?_); refine gl 102 Tryd.func99 #[.int .i64 a0, .int .i64 1616, .int .i64 1625] ?_; (with_reducible refine (impl_in.calls a0 1616 1625 false _ A49.out).mono ?_); rintro e w' ⟨rfl, ⟨nd, rfl⟩⟩; refine ⟨_, rfl, ?_⟩))
                                                (try simp only [Act.put, List.setIfInBounds_toArray, List.set_cons_zero, List.set_cons_succ])
                                                go_cut [103] (fun v103 wc => ∃ (kq : Nat) (x103_50 : Bool), v103 = .bool x103_50 ∧ Aside0 (impl_kind.j5 kq a0 x103_50 = some (r1, r2)) ∧ Aside0 (kq ≤ kj43) ∧ Drawn0 w wc)
                                                case first =>
                                                  as_aux_lemma =>
                                                    have H := HC51.out
                                                    clear HC51
                                                    replace H := Option.bind_eq_some_iff.mp H
                                                    obtain ⟨t292, A520, H⟩ := H
                                                    replace H : (if t292 = true then (impl_kind.j5 kj43 a0 true) else ((impl_in.f a0 1824 1844).bind fun t293 => (if t293 = true then (impl_kind.j5 kj43 a0 true) else ((impl_in.f a0 1857 1883).bind fun t294 => (if t294 = true then (impl_kind.j5 kj43 a0 true) else ((impl_in.f a0 12288 23459).bind fun t295 => (impl_kind.j5 kj43 a0 t295))))))) = some (r1, r2) := H
                                                    have A52 := am A520
                                                    clear A520
                                                    by_cases c53 : t292 = true
                                                    · subst c53
                                                      have H1 : (impl_kind.j5 kj43 a0 true) = some (r1, r2) := by rw [if_pos rfl] at H; exact H
                                                      clear H
                                                      have H := H1
                                                      clear H1
                                                      have H' := am H
                                                      clear H
                                                      go_wp2_with (first | ((with_reducible refine gate_callee (f := 99) rfl ?_); refine gl 105 Tryd.func99 #[.int .i64 a0, .int .i64 1792, .int .i64 1810] ?_; (with_reducible refine (impl_in.calls a0 1792 1810 true _ A52.out).mono ?_); rintro e w' ⟨rfl, ⟨nd, rfl⟩⟩; refine ⟨_, rfl, ?_⟩))
                                                      go_meet
                                                      case rel => exact ⟨_, (true), (by first | rfl | (simp; done) | (simp [*]; done)), H', ⟨by have := HJ17.out; have := HJ22.out; have := HJ43.out; first | omega | exact Nat.le_refl _⟩, by repeat (first | exact Drawn0.refl _ | apply Drawn0.step)⟩
                                                    · replace c53 := Bool.eq_false_iff.mpr c53
                                                      subst c53
                                                      have H1 : ((impl_in.f a0 1824 1844).bind fun t293 => (if t293 = true then (impl_kind.j5 kj43 a0 true) else ((impl_in.f a0 1857 1883).bind fun t294 => (if t294 = true then (impl_kind.j5 kj43 a0 true) else ((impl_in.f a0 12288 23459).bind fun t295 => (impl_kind.j5 kj43 a0 t295)))))) = some (r1, r2) := by rw [if_neg (show ¬ (false = true) by decide)] at H; exact H
                                                      clear H
                                                      have H := H1
                                                      clear H1
                                                      replace H := Option.bind_eq_some_iff.mp H
                                                      obtain ⟨t293, A540, H⟩ := H
                                                      replace H : (if t293 = true then (impl_kind.j5 kj43 a0 true) else ((impl_in.f a0 1857 1883).bind fun t294 => (if t294 = true then (impl_kind.j5 kj43 a0 true) else ((impl_in.f a0 12288 23459).bind fun t295 => (impl_kind.j5 kj43 a0 t295))))) = some (r1, r2) := H
                                                      have A54 := am A540
                                                      clear A540
                                                      by_cases c55 : t293 = true
                                                      · subst c55
                                                        have H1 : (impl_kind.j5 kj43 a0 true) = some (r1, r2) := by rw [if_pos rfl] at H; exact H
                                                        clear H
                                                        have H := H1
                                                        clear H1
                                                        have H' := am H
                                                        clear H
                                                        go_wp2_with (first | ((with_reducible refine gate_callee (f := 99) rfl ?_); refine gl 105 Tryd.func99 #[.int .i64 a0, .int .i64 1792, .int .i64 1810] ?_; (with_reducible refine (impl_in.calls a0 1792 1810 false _ A52.out).mono ?_); rintro e w' ⟨rfl, ⟨nd, rfl⟩⟩; refine ⟨_, rfl, ?_⟩) | (go_at_call 99; (with_reducible refine (impl_in.calls a0 1824 1844 true _ A54.out).mono ?_); rintro e w' ⟨rfl, ⟨nd, rfl⟩⟩))
                                                        go_meet
                                                        case rel => exact ⟨_, (true), (by first | rfl | (simp; done) | (simp [*]; done)), H', ⟨by have := HJ17.out; have := HJ22.out; have := HJ43.out; first | omega | exact Nat.le_refl _⟩, by repeat (first | exact Drawn0.refl _ | apply Drawn0.step)⟩
                                                      · replace c55 := Bool.eq_false_iff.mpr c55
                                                        subst c55
                                                        have H1 : ((impl_in.f a0 1857 1883).bind fun t294 => (if t294 = true then (impl_kind.j5 kj43 a0 true) else ((impl_in.f a0 12288 23459).bind fun t295 => (impl_kind.j5 kj43 a0 t295)))) = some (r1, r2) := by rw [if_neg (show ¬ (false = true) by decide)] at H; exact H
                                                        clear H
                                                        have H := H1
                                                        clear H1
                                                        replace H := Option.bind_eq_some_iff.mp H
                                                        obtain ⟨t294, A560, H⟩ := H
                                                        replace H : (if t294 = true then (impl_kind.j5 kj43 a0 true) else ((impl_in.f a0 12288 23459).bind fun t295 => (impl_kind.j5 kj43 a0 t295))) = some (r1, r2) := H
                                                        have A56 := am A560
                                                        clear A560
                                                        by_cases c57 : t294 = true
                                                        · subst c57
                                                          have H1 : (impl_kind.j5 kj43 a0 true) = some (r1, r2) := by rw [if_pos rfl] at H; exact H
                                                          clear H
                                                          have H := H1
                                                          clear H1
                                                          have H' := am H
                                                          clear H
                                                          go_wp2_with (first | ((with_reducible refine gate_callee (f := 99) rfl ?_); refine gl 105 Tryd.func99 #[.int .i64 a0, .int .i64 1792, .int .i64 1810] ?_; (with_reducible refine (impl_in.calls a0 1792 1810 false _ A52.out).mono ?_); rintro e w' ⟨rfl, ⟨nd, rfl⟩⟩; refine ⟨_, rfl, ?_⟩) | (go_at_call 99; (with_reducible refine (impl_in.calls a0 1824 1844 false _ A54.out).mono ?_); rintro e w' ⟨rfl, ⟨nd, rfl⟩⟩) | (go_at_call 99; (with_reducible refine (impl_in.calls a0 1857 1883 true _ A56.out).mono ?_); rintro e w' ⟨rfl, ⟨nd, rfl⟩⟩))
                                                          go_meet
                                                          case rel => exact ⟨_, (true), (by first | rfl | (simp; done) | (simp [*]; done)), H', ⟨by have := HJ17.out; have := HJ22.out; have := HJ43.out; first | omega | exact Nat.le_refl _⟩, by repeat (first | exact Drawn0.refl _ | apply Drawn0.step)⟩
                                                        · replace c57 := Bool.eq_false_iff.mpr c57
                                                          subst c57
                                                          have H1 : ((impl_in.f a0 12288 23459).bind fun t295 => (impl_kind.j5 kj43 a0 t295)) = some (r1, r2) := by rw [if_neg (show ¬ (false = true) by decide)] at H; exact H
                                                          clear H
                                                          have H := H1
                                                          clear H1
                                                          replace H := Option.bind_eq_some_iff.mp H
                                                          obtain ⟨t295, A580, H⟩ := H
                                                          replace H : (impl_kind.j5 kj43 a0 t295) = some (r1, r2) := H
                                                          have A58 := am A580
                                                          clear A580
                                                          have H' := am H
                                                          clear H
                                                          go_wp2_with (first | ((with_reducible refine gate_callee (f := 99) rfl ?_); refine gl 105 Tryd.func99 #[.int .i64 a0, .int .i64 1792, .int .i64 1810] ?_; (with_reducible refine (impl_in.calls a0 1792 1810 false _ A52.out).mono ?_); rintro e w' ⟨rfl, ⟨nd, rfl⟩⟩; refine ⟨_, rfl, ?_⟩) | (go_at_call 99; (with_reducible refine (impl_in.calls a0 1824 1844 false _ A54.out).mono ?_); rintro e w' ⟨rfl, ⟨nd, rfl⟩⟩) | (go_at_call 99; (with_reducible refine (impl_in.calls a0 1857 1883 false _ A56.out).mono ?_); rintro e w' ⟨rfl, ⟨nd, rfl⟩⟩) | (go_at_call 99; (with_reducible refine (impl_in.calls a0 12288 23459 t295 _ A58.out).mono ?_); rintro e w' ⟨rfl, ⟨nd, rfl⟩⟩))
                                                          go_meet
                                                          case rel => exact ⟨_, (t295), (by first | rfl | (simp; done) | (simp [*]; done)), H', ⟨by have := HJ17.out; have := HJ22.out; have := HJ43.out; first | omega | exact Nat.le_refl _⟩, by repeat (first | exact Drawn0.refl _ | apply Drawn0.step)⟩
                                                case rest =>
                                                  as_aux_lemma =>
                                                    clear HC51
                                                    try clear c1
                                                    try clear c2
                                                    try clear p2
                                                    try clear c3
                                                    try clear c3b0
                                                    try clear c4
                                                    try clear c5
                                                    try clear c5b0
                                                    try clear c7
                                                    try clear c9
                                                    try clear c9b0
                                                    try clear c11
                                                    try clear c12
                                                    try clear c13
                                                    try clear c15
                                                    try clear c17
                                                    try clear c20
                                                    try clear c22
                                                    try clear c24
                                                    try clear c24b0
                                                    try clear c24b1
                                                    try clear c25
                                                    try clear c25b0
                                                    try clear c25b1
                                                    try clear c26
                                                    try clear c28
                                                    try clear c30
                                                    try clear c32
                                                    try clear c34
                                                    try clear c35
                                                    try clear c35b0
                                                    try clear c35b1
                                                    try clear c37
                                                    try clear c39
                                                    try clear c41
                                                    try clear c43
                                                    try clear c46
                                                    try clear c47
                                                    try clear c47b0
                                                    try clear c47b1
                                                    try clear c48
                                                    try clear c50
                                                    try clear c53
                                                    try clear c55
                                                    try clear c57
                                                    try clear p2
                                                    obtain ⟨kq, x103_50, rfl, HA, HJ50, ⟨mc50, rfl⟩⟩ := hcut
                                                    cases kq with
                                                    | zero => exact absurd HA.out (by simp [impl_kind.j5])
                                                    | succ kj50 =>
                                                      have H := HA.out
                                                      clear HA
                                                      simp only [impl_kind.j5] at H
                                                      by_cases c59 : x103_50 = true
                                                      · subst c59
                                                        have H1 : (some (7, 7)) = some (r1, r2) := by rw [if_pos rfl] at H; exact H
                                                        clear H
                                                        have H := H1
                                                        clear H1
                                                        simp only [Option.some.injEq, Prod.mk.injEq] at H
                                                        obtain ⟨rfl, rfl⟩ := H
                                                        go_wp2
                                                        go_ret2
                                                        exact rdd
                                                      · replace c59 := Bool.eq_false_iff.mpr c59
                                                        subst c59
                                                        have H1 : ((impl_in.f a0 2048 2095).bind fun t296 => (if t296 = true then (some (7, 8)) else ((impl_in.f a0 4096 4159).bind fun t297 => (if t297 = true then (some (3, 0)) else ((impl_in.f a0 7680 7748).bind fun t298 => (if t298 = true then (impl_kind.j6 kj50 a0 true) else ((impl_in.f a0 7760 7785).bind fun t299 => (impl_kind.j6 kj50 a0 t299)))))))) = some (r1, r2) := by rw [if_neg (show ¬ (false = true) by decide)] at H; exact H
                                                        clear H
                                                        have H := H1
                                                        clear H1
                                                        replace H := Option.bind_eq_some_iff.mp H
                                                        obtain ⟨t296, A600, H⟩ := H
                                                        replace H : (if t296 = true then (some (7, 8)) else ((impl_in.f a0 4096 4159).bind fun t297 => (if t297 = true then (some (3, 0)) else ((impl_in.f a0 7680 7748).bind fun t298 => (if t298 = true then (impl_kind.j6 kj50 a0 true) else ((impl_in.f a0 7760 7785).bind fun t299 => (impl_kind.j6 kj50 a0 t299))))))) = some (r1, r2) := H
                                                        have A60 := am A600
                                                        clear A600
                                                        by_cases c61 : t296 = true
                                                        · subst c61
                                                          have H1 : (some (7, 8)) = some (r1, r2) := by rw [if_pos rfl] at H; exact H
                                                          clear H
                                                          have H := H1
                                                          clear H1
                                                          simp only [Option.some.injEq, Prod.mk.injEq] at H
                                                          obtain ⟨rfl, rfl⟩ := H
                                                          go_wp2_with (first | ((with_reducible refine gate_callee (f := 99) rfl ?_); refine gl 120 Tryd.func99 #[.int .i64 a0, .int .i64 2048, .int .i64 2095] ?_; (with_reducible refine (impl_in.calls a0 2048 2095 true _ A60.out).mono ?_); rintro e w' ⟨rfl, ⟨nd, rfl⟩⟩; refine ⟨_, rfl, ?_⟩))
                                                          go_ret2
                                                          exact rdd
                                                        · replace c61 := Bool.eq_false_iff.mpr c61
                                                          subst c61
                                                          have H1 : ((impl_in.f a0 4096 4159).bind fun t297 => (if t297 = true then (some (3, 0)) else ((impl_in.f a0 7680 7748).bind fun t298 => (if t298 = true then (impl_kind.j6 kj50 a0 true) else ((impl_in.f a0 7760 7785).bind fun t299 => (impl_kind.j6 kj50 a0 t299)))))) = some (r1, r2) := by rw [if_neg (show ¬ (false = true) by decide)] at H; exact H
                                                          clear H
                                                          have H := H1
                                                          clear H1
                                                          replace H := Option.bind_eq_some_iff.mp H
                                                          obtain ⟨t297, A620, H⟩ := H
                                                          replace H : (if t297 = true then (some (3, 0)) else ((impl_in.f a0 7680 7748).bind fun t298 => (if t298 = true then (impl_kind.j6 kj50 a0 true) else ((impl_in.f a0 7760 7785).bind fun t299 => (impl_kind.j6 kj50 a0 t299))))) = some (r1, r2) := H
                                                          have A62 := am A620
                                                          clear A620
                                                          by_cases c63 : t297 = true
                                                          · subst c63
                                                            have H1 : (some (3, 0)) = some (r1, r2) := by rw [if_pos rfl] at H; exact H
                                                            clear H
                                                            have H := H1
                                                            clear H1
                                                            simp only [Option.some.injEq, Prod.mk.injEq] at H
                                                            obtain ⟨rfl, rfl⟩ := H
                                                            go_wp2_with (first | ((with_reducible refine gate_callee (f := 99) rfl ?_); refine gl 120 Tryd.func99 #[.int .i64 a0, .int .i64 2048, .int .i64 2095] ?_; (with_reducible refine (impl_in.calls a0 2048 2095 false _ A60.out).mono ?_); rintro e w' ⟨rfl, ⟨nd, rfl⟩⟩; refine ⟨_, rfl, ?_⟩) | ((with_reducible refine gate_callee (f := 99) rfl ?_); refine gl 123 Tryd.func99 #[.int .i64 a0, .int .i64 4096, .int .i64 4159] ?_; (with_reducible refine (impl_in.calls a0 4096 4159 true _ A62.out).mono ?_); rintro e w' ⟨rfl, ⟨nd, rfl⟩⟩; refine ⟨_, rfl, ?_⟩))
                                                            go_ret2
                                                            exact rdd
                                                          · replace c63 := Bool.eq_false_iff.mpr c63
                                                            subst c63
                                                            have H1 : ((impl_in.f a0 7680 7748).bind fun t298 => (if t298 = true then (impl_kind.j6 kj50 a0 true) else ((impl_in.f a0 7760 7785).bind fun t299 => (impl_kind.j6 kj50 a0 t299)))) = some (r1, r2) := by rw [if_neg (show ¬ (false = true) by decide)] at H; exact H
                                                            clear H
                                                            have H := H1
                                                            clear H1
                                                            have HC64 := am H
                                                            clear H
                                                            go_upto_region 45 with (first | ((with_reducible refine gate_callee (f := 99) rfl ?_); refine gl 120 Tryd.func99 #[.int .i64 a0, .int .i64 2048, .int .i64 2095] ?_; (with_reducible refine (impl_in.calls a0 2048 2095 false _ A60.out).mono ?_); rintro e w' ⟨rfl, ⟨nd, rfl⟩⟩; refine ⟨_, rfl, ?_⟩) | ((with_reducible refine gate_callee (f := 99) rfl ?_); refine gl 123 Tryd.func99 #[.int .i64 a0, .int .i64 4096, .int .i64 4159] ?_; (with_reducible refine (impl_in.calls a0 4096 4159 false _ A62.out).mono ?_); rintro e w' ⟨rfl, ⟨nd, rfl⟩⟩; refine ⟨_, rfl, ?_⟩))
                                                            (try simp only [Act.put, List.setIfInBounds_toArray, List.set_cons_zero, List.set_cons_succ])
                                                            go_cut [124] (fun v124 wc => ∃ (kq : Nat) (x124_63 : Bool), v124 = .bool x124_63 ∧ Aside0 (impl_kind.j6 kq a0 x124_63 = some (r1, r2)) ∧ Aside0 (kq ≤ kj50) ∧ Drawn0 w wc)
                                                            case first =>
                                                              as_aux_lemma =>
                                                                have H := HC64.out
                                                                clear HC64
                                                                replace H := Option.bind_eq_some_iff.mp H
                                                                obtain ⟨t298, A650, H⟩ := H
                                                                replace H : (if t298 = true then (impl_kind.j6 kj50 a0 true) else ((impl_in.f a0 7760 7785).bind fun t299 => (impl_kind.j6 kj50 a0 t299))) = some (r1, r2) := H
                                                                have A65 := am A650
                                                                clear A650
                                                                by_cases c66 : t298 = true
                                                                · subst c66
                                                                  have H1 : (impl_kind.j6 kj50 a0 true) = some (r1, r2) := by rw [if_pos rfl] at H; exact H
                                                                  clear H
                                                                  have H := H1
                                                                  clear H1
                                                                  have H' := am H
                                                                  clear H
                                                                  go_wp2_with (first | ((with_reducible refine gate_callee (f := 99) rfl ?_); refine gl 126 Tryd.func99 #[.int .i64 a0, .int .i64 7680, .int .i64 7748] ?_; (with_reducible refine (impl_in.calls a0 7680 7748 true _ A65.out).mono ?_); rintro e w' ⟨rfl, ⟨nd, rfl⟩⟩; refine ⟨_, rfl, ?_⟩))
                                                                  go_meet
                                                                  case rel => exact ⟨_, (true), (by first | rfl | (simp; done) | (simp [*]; done)), H', ⟨by have := HJ17.out; have := HJ22.out; have := HJ43.out; have := HJ50.out; first | omega | exact Nat.le_refl _⟩, by repeat (first | exact Drawn0.refl _ | apply Drawn0.step)⟩
                                                                · replace c66 := Bool.eq_false_iff.mpr c66
                                                                  subst c66
                                                                  have H1 : ((impl_in.f a0 7760 7785).bind fun t299 => (impl_kind.j6 kj50 a0 t299)) = some (r1, r2) := by rw [if_neg (show ¬ (false = true) by decide)] at H; exact H
                                                                  clear H
                                                                  have H := H1
                                                                  clear H1
                                                                  replace H := Option.bind_eq_some_iff.mp H
                                                                  obtain ⟨t299, A670, H⟩ := H
                                                                  replace H : (impl_kind.j6 kj50 a0 t299) = some (r1, r2) := H
                                                                  have A67 := am A670
                                                                  clear A670
                                                                  have H' := am H
                                                                  clear H
                                                                  go_wp2_with (first | ((with_reducible refine gate_callee (f := 99) rfl ?_); refine gl 126 Tryd.func99 #[.int .i64 a0, .int .i64 7680, .int .i64 7748] ?_; (with_reducible refine (impl_in.calls a0 7680 7748 false _ A65.out).mono ?_); rintro e w' ⟨rfl, ⟨nd, rfl⟩⟩; refine ⟨_, rfl, ?_⟩) | (go_at_call 99; (with_reducible refine (impl_in.calls a0 7760 7785 t299 _ A67.out).mono ?_); rintro e w' ⟨rfl, ⟨nd, rfl⟩⟩))
                                                                  go_meet
                                                                  case rel => exact ⟨_, (t299), (by first | rfl | (simp; done) | (simp [*]; done)), H', ⟨by have := HJ17.out; have := HJ22.out; have := HJ43.out; have := HJ50.out; first | omega | exact Nat.le_refl _⟩, by repeat (first | exact Drawn0.refl _ | apply Drawn0.step)⟩
                                                            case rest =>
                                                              as_aux_lemma =>
                                                                clear HC64
                                                                try clear c1
                                                                try clear c2
                                                                try clear p2
                                                                try clear c3
                                                                try clear c3b0
                                                                try clear c4
                                                                try clear c5
                                                                try clear c5b0
                                                                try clear c6
                                                                try clear c7
                                                                try clear c9
                                                                try clear c9b0
                                                                try clear c11
                                                                try clear c12
                                                                try clear c13
                                                                try clear c15
                                                                try clear c17
                                                                try clear c20
                                                                try clear c22
                                                                try clear c24
                                                                try clear c24b0
                                                                try clear c24b1
                                                                try clear c25
                                                                try clear c25b0
                                                                try clear c25b1
                                                                try clear c26
                                                                try clear c28
                                                                try clear c30
                                                                try clear c32
                                                                try clear c34
                                                                try clear c35
                                                                try clear c35b0
                                                                try clear c35b1
                                                                try clear c37
                                                                try clear c39
                                                                try clear c41
                                                                try clear c43
                                                                try clear c46
                                                                try clear c47
                                                                try clear c47b0
                                                                try clear c47b1
                                                                try clear c48
                                                                try clear c50
                                                                try clear c53
                                                                try clear c55
                                                                try clear c57
                                                                try clear c59
                                                                try clear c61
                                                                try clear c63
                                                                try clear c66
                                                                try clear p2
                                                                obtain ⟨kq, x124_63, rfl, HA, HJ63, ⟨mc63, rfl⟩⟩ := hcut
                                                                cases kq with
                                                                | zero => exact absurd HA.out (by simp [impl_kind.j6])
                                                                | succ kj63 =>
                                                                  have H := HA.out
                                                                  clear HA
                                                                  simp only [impl_kind.j6] at H
                                                                  by_cases c68 : x124_63 = true
                                                                  · subst c68
                                                                    have H1 : (some (10, 0)) = some (r1, r2) := by rw [if_pos rfl] at H; exact H
                                                                    clear H
                                                                    have H := H1
                                                                    clear H1
                                                                    simp only [Option.some.injEq, Prod.mk.injEq] at H
                                                                    obtain ⟨rfl, rfl⟩ := H
                                                                    go_wp2
                                                                    go_ret2
                                                                    exact rdd
                                                                  · replace c68 := Bool.eq_false_iff.mpr c68
                                                                    subst c68
                                                                    have H1 : ((impl_in.f a0 7936 7947).bind fun t300 => (if t300 = true then (impl_kind.j7 kj63 a0 true) else (if a0 = 7953 then (impl_kind.j7 kj63 a0 true) else (impl_kind.j7 kj63 a0 (a0 == 7954))))) = some (r1, r2) := by rw [if_neg (show ¬ (false = true) by decide)] at H; exact H
                                                                    clear H
                                                                    have H := H1
                                                                    clear H1
                                                                    have HC69 := am H
                                                                    clear H
                                                                    go_upto_region 47 with (fail)
                                                                    go_cut [131] (fun v131 wc => ∃ (kq : Nat) (x131_68 : Bool), v131 = .bool x131_68 ∧ Aside0 (impl_kind.j7 kq a0 x131_68 = some (r1, r2)) ∧ Aside0 (kq ≤ kj63) ∧ Drawn0 w wc)
                                                                    case first =>
                                                                      as_aux_lemma =>
                                                                        have H := HC69.out
                                                                        clear HC69
                                                                        replace H := Option.bind_eq_some_iff.mp H
                                                                        obtain ⟨t300, A700, H⟩ := H
                                                                        replace H : (if t300 = true then (impl_kind.j7 kj63 a0 true) else (if a0 = 7953 then (impl_kind.j7 kj63 a0 true) else (impl_kind.j7 kj63 a0 (a0 == 7954)))) = some (r1, r2) := H
                                                                        have A70 := am A700
                                                                        clear A700
                                                                        by_cases c71 : t300 = true
                                                                        · subst c71
                                                                          have H1 : (impl_kind.j7 kj63 a0 true) = some (r1, r2) := by rw [if_pos rfl] at H; exact H
                                                                          clear H
                                                                          have H := H1
                                                                          clear H1
                                                                          have H' := am H
                                                                          clear H
                                                                          go_wp2_with (first | ((with_reducible refine gate_callee (f := 99) rfl ?_); refine gl 133 Tryd.func99 #[.int .i64 a0, .int .i64 7936, .int .i64 7947] ?_; (with_reducible refine (impl_in.calls a0 7936 7947 true _ A70.out).mono ?_); rintro e w' ⟨rfl, ⟨nd, rfl⟩⟩; refine ⟨_, rfl, ?_⟩))
                                                                          go_meet
                                                                          case rel => exact ⟨_, (true), (by first | rfl | (simp; done) | (simp [*]; done)), H', ⟨by have := HJ17.out; have := HJ22.out; have := HJ43.out; have := HJ50.out; have := HJ63.out; first | omega | exact Nat.le_refl _⟩, by repeat (first | exact Drawn0.refl _ | apply Drawn0.step)⟩
                                                                        · replace c71 := Bool.eq_false_iff.mpr c71
                                                                          subst c71
                                                                          have H1 : (if a0 = 7953 then (impl_kind.j7 kj63 a0 true) else (impl_kind.j7 kj63 a0 (a0 == 7954))) = some (r1, r2) := by rw [if_neg (show ¬ (false = true) by decide)] at H; exact H
                                                                          clear H
                                                                          have H := H1
                                                                          clear H1
                                                                          by_cases c72 : a0 = 7953
                                                                          · rw [if_pos c72] at H
                                                                            have c72b0 : (a0 == 7953) = true := beq_iff_eq.mpr c72
                                                                            have c72b1 : (a0 != 7953) = false := bne_eq_false_iff_eq.mpr c72
                                                                            clear c72
                                                                            (first | rw [c72b0] | (simp only [i64_w, i32_w]; rw [c72b0]) | skip)
                                                                            have H' := am H
                                                                            clear H
                                                                            go_wp2_with (first | ((with_reducible refine gate_callee (f := 99) rfl ?_); refine gl 133 Tryd.func99 #[.int .i64 a0, .int .i64 7936, .int .i64 7947] ?_; (with_reducible refine (impl_in.calls a0 7936 7947 false _ A70.out).mono ?_); rintro e w' ⟨rfl, ⟨nd, rfl⟩⟩; refine ⟨_, rfl, ?_⟩))
                                                                            go_meet
                                                                            case rel => exact ⟨_, (true), (by first | rfl | (simp; done) | (simp [*]; done)), H', ⟨by have := HJ17.out; have := HJ22.out; have := HJ43.out; have := HJ50.out; have := HJ63.out; first | omega | exact Nat.le_refl _⟩, by repeat (first | exact Drawn0.refl _ | apply Drawn0.step)⟩
                                                                          · rw [if_neg c72] at H
                                                                            have c72b0 : (a0 == 7953) = false := beq_eq_false_iff_ne.mpr c72
                                                                            have c72b1 : (a0 != 7953) = true := bne_iff_ne.mpr c72
                                                                            (first | rw [c72b0] | (simp only [i64_w, i32_w]; rw [c72b0]) | skip)
                                                                            have H' := am H
                                                                            clear H
                                                                            go_wp2_with (first | ((with_reducible refine gate_callee (f := 99) rfl ?_); refine gl 133 Tryd.func99 #[.int .i64 a0, .int .i64 7936, .int .i64 7947] ?_; (with_reducible refine (impl_in.calls a0 7936 7947 false _ A70.out).mono ?_); rintro e w' ⟨rfl, ⟨nd, rfl⟩⟩; refine ⟨_, rfl, ?_⟩))
                                                                            go_meet
                                                                            case rel => exact ⟨_, ((a0 == 7954)), (by first | rfl | (simp; done) | (simp [*]; done)), H', ⟨by have := HJ17.out; have := HJ22.out; have := HJ43.out; have := HJ50.out; have := HJ63.out; first | omega | exact Nat.le_refl _⟩, by repeat (first | exact Drawn0.refl _ | apply Drawn0.step)⟩
                                                                    case rest =>
                                                                      as_aux_lemma =>
                                                                        clear HC69
                                                                        try clear c1
                                                                        try clear c2
                                                                        try clear p2
                                                                        try clear c3
                                                                        try clear c3b0
                                                                        try clear c4
                                                                        try clear c5
                                                                        try clear c5b0
                                                                        try clear c6
                                                                        try clear c7
                                                                        try clear c9
                                                                        try clear c9b0
                                                                        try clear c11
                                                                        try clear c12
                                                                        try clear c13
                                                                        try clear c15
                                                                        try clear c17
                                                                        try clear c20
                                                                        try clear c22
                                                                        try clear c24
                                                                        try clear c24b0
                                                                        try clear c24b1
                                                                        try clear c25
                                                                        try clear c25b0
                                                                        try clear c25b1
                                                                        try clear c26
                                                                        try clear c28
                                                                        try clear c30
                                                                        try clear c32
                                                                        try clear c34
                                                                        try clear c35
                                                                        try clear c35b0
                                                                        try clear c35b1
                                                                        try clear c37
                                                                        try clear c39
                                                                        try clear c41
                                                                        try clear c43
                                                                        try clear c46
                                                                        try clear c47
                                                                        try clear c47b0
                                                                        try clear c47b1
                                                                        try clear c48
                                                                        try clear c50
                                                                        try clear c53
                                                                        try clear c55
                                                                        try clear c57
                                                                        try clear c59
                                                                        try clear c61
                                                                        try clear c63
                                                                        try clear c66
                                                                        try clear c68
                                                                        try clear c71
                                                                        try clear c72
                                                                        try clear c72b0
                                                                        try clear c72b1
                                                                        try clear p2
                                                                        obtain ⟨kq, x131_68, rfl, HA, HJ68, ⟨mc68, rfl⟩⟩ := hcut
                                                                        cases kq with
                                                                        | zero => exact absurd HA.out (by simp [impl_kind.j7])
                                                                        | succ kj68 =>
                                                                          have H := HA.out
                                                                          clear HA
                                                                          simp only [impl_kind.j7] at H
                                                                          by_cases c73 : x131_68 = true
                                                                          · subst c73
                                                                            have H1 : (some (11, 0)) = some (r1, r2) := by rw [if_pos rfl] at H; exact H
                                                                            clear H
                                                                            have H := H1
                                                                            clear H1
                                                                            simp only [Option.some.injEq, Prod.mk.injEq] at H
                                                                            obtain ⟨rfl, rfl⟩ := H
                                                                            go_wp2
                                                                            go_ret2
                                                                            exact rdd
                                                                          · replace c73 := Bool.eq_false_iff.mpr c73
                                                                            subst c73
                                                                            have H1 : ((impl_in.f a0 8192 9631).bind fun t301 => (if t301 = true then (impl_kind.j8 kj68 a0 (decide ((Int.tmod (wrap64 (a0 - 8192)) 512) < 416))) else (impl_kind.j8 kj68 a0 false))) = some (r1, r2) := by rw [if_neg (show ¬ (false = true) by decide)] at H; exact H
                                                                            clear H
                                                                            have H := H1
                                                                            clear H1
                                                                            have HC74 := am H
                                                                            clear H
                                                                            go_upto_region 49 with (fail)
                                                                            go_cut [142] (fun v142 wc => ∃ (kq : Nat) (x142_73 : Bool), v142 = .bool x142_73 ∧ Aside0 (impl_kind.j8 kq a0 x142_73 = some (r1, r2)) ∧ Aside0 (kq ≤ kj68) ∧ Drawn0 w wc)
                                                                            case first =>
                                                                              as_aux_lemma =>
                                                                                have H := HC74.out
                                                                                clear HC74
                                                                                replace H := Option.bind_eq_some_iff.mp H
                                                                                obtain ⟨t301, A750, H⟩ := H
                                                                                replace H : (if t301 = true then (impl_kind.j8 kj68 a0 (decide ((Int.tmod (wrap64 (a0 - 8192)) 512) < 416))) else (impl_kind.j8 kj68 a0 false)) = some (r1, r2) := H
                                                                                have A75 := am A750
                                                                                clear A750
                                                                                by_cases c76 : t301 = true
                                                                                · subst c76
                                                                                  have H1 : (impl_kind.j8 kj68 a0 (decide ((Int.tmod (wrap64 (a0 - 8192)) 512) < 416))) = some (r1, r2) := by rw [if_pos rfl] at H; exact H
                                                                                  clear H
                                                                                  have H := H1
                                                                                  clear H1
                                                                                  have H' := am H
                                                                                  clear H
                                                                                  go_wp2_with (first | ((with_reducible refine gate_callee (f := 99) rfl ?_); refine gl 144 Tryd.func99 #[.int .i64 a0, .int .i64 8192, .int .i64 9631] ?_; (with_reducible refine (impl_in.calls a0 8192 9631 true _ A75.out).mono ?_); rintro e w' ⟨rfl, ⟨nd, rfl⟩⟩; refine ⟨_, rfl, ?_⟩))
                                                                                  go_meet
                                                                                  case rel => exact ⟨_, (decide ((Int.tmod (wrap64 (a0 - 8192)) 512) < 416)), (by first | rfl | (simp; done) | (simp [*]; done)), H', ⟨by have := HJ17.out; have := HJ22.out; have := HJ43.out; have := HJ50.out; have := HJ63.out; have := HJ68.out; first | omega | exact Nat.le_refl _⟩, by repeat (first | exact Drawn0.refl _ | apply Drawn0.step)⟩
                                                                                · replace c76 := Bool.eq_false_iff.mpr c76
                                                                                  subst c76
                                                                                  have H1 : (impl_kind.j8 kj68 a0 false) = some (r1, r2) := by rw [if_neg (show ¬ (false = true) by decide)] at H; exact H
                                                                                  clear H
                                                                                  have H := H1
                                                                                  clear H1
                                                                                  have H' := am H
                                                                                  clear H
                                                                                  go_wp2_with (first | ((with_reducible refine gate_callee (f := 99) rfl ?_); refine gl 144 Tryd.func99 #[.int .i64 a0, .int .i64 8192, .int .i64 9631] ?_; (with_reducible refine (impl_in.calls a0 8192 9631 false _ A75.out).mono ?_); rintro e w' ⟨rfl, ⟨nd, rfl⟩⟩; refine ⟨_, rfl, ?_⟩))
                                                                                  go_meet
                                                                                  case rel => exact ⟨_, (false), (by first | rfl | (simp; done) | (simp [*]; done)), H', ⟨by have := HJ17.out; have := HJ22.out; have := HJ43.out; have := HJ50.out; have := HJ63.out; have := HJ68.out; first | omega | exact Nat.le_refl _⟩, by repeat (first | exact Drawn0.refl _ | apply Drawn0.step)⟩
                                                                            case rest =>
                                                                              as_aux_lemma =>
                                                                                clear HC74
                                                                                try clear c1
                                                                                try clear c2
                                                                                try clear p2
                                                                                try clear c3
                                                                                try clear c3b0
                                                                                try clear c4
                                                                                try clear c5
                                                                                try clear c5b0
                                                                                try clear c6
                                                                                try clear p6
                                                                                try clear c7
                                                                                try clear c9
                                                                                try clear c9b0
                                                                                try clear c11
                                                                                try clear c12
                                                                                try clear c13
                                                                                try clear c15
                                                                                try clear c17
                                                                                try clear c20
                                                                                try clear c22
                                                                                try clear c24
                                                                                try clear c24b0
                                                                                try clear c24b1
                                                                                try clear c25
                                                                                try clear c25b0
                                                                                try clear c25b1
                                                                                try clear c26
                                                                                try clear c28
                                                                                try clear c30
                                                                                try clear c32
                                                                                try clear c34
                                                                                try clear c35
                                                                                try clear c35b0
                                                                                try clear c35b1
                                                                                try clear c37
                                                                                try clear c39
                                                                                try clear c41
                                                                                try clear c43
                                                                                try clear c46
                                                                                try clear c47
                                                                                try clear c47b0
                                                                                try clear c47b1
                                                                                try clear c48
                                                                                try clear c50
                                                                                try clear c53
                                                                                try clear c55
                                                                                try clear c57
                                                                                try clear c59
                                                                                try clear c61
                                                                                try clear c63
                                                                                try clear p64
                                                                                try clear c66
                                                                                try clear c68
                                                                                try clear c71
                                                                                try clear c72
                                                                                try clear c72b0
                                                                                try clear c72b1
                                                                                try clear c73
                                                                                try clear c76
                                                                                try clear p2
                                                                                obtain ⟨kq, x142_73, rfl, HA, HJ73, ⟨mc73, rfl⟩⟩ := hcut
                                                                                cases kq with
                                                                                | zero => exact absurd HA.out (by simp [impl_kind.j8])
                                                                                | succ kj73 =>
                                                                                  have H := HA.out
                                                                                  clear HA
                                                                                  simp only [impl_kind.j8] at H
                                                                                  by_cases c77 : x142_73 = true
                                                                                  · subst c77
                                                                                    have H1 : (if (Int.tmod (wrap64 (a0 - 8192)) 512) < 208 then (some (4, 1)) else (some (5, 1))) = some (r1, r2) := by rw [if_pos rfl] at H; exact H
                                                                                    clear H
                                                                                    have H := H1
                                                                                    clear H1
                                                                                    by_cases c78 : (Int.tmod (wrap64 (a0 - 8192)) 512) < 208
                                                                                    · rw [if_pos c78] at H
                                                                                      have c78b0 : decide ((Int.tmod (wrap64 (a0 - 8192)) 512) < 208) = true := decide_eq_true c78
                                                                                      clear c78
                                                                                      simp only [Option.some.injEq, Prod.mk.injEq] at H
                                                                                      obtain ⟨rfl, rfl⟩ := H
                                                                                      go_wp2
                                                                                      go_ret2
                                                                                      exact rdd
                                                                                    · rw [if_neg c78] at H
                                                                                      have c78b0 : decide ((Int.tmod (wrap64 (a0 - 8192)) 512) < 208) = false := decide_eq_false c78
                                                                                      clear c78
                                                                                      simp only [Option.some.injEq, Prod.mk.injEq] at H
                                                                                      obtain ⟨rfl, rfl⟩ := H
                                                                                      go_wp2
                                                                                      go_ret2
                                                                                      exact rdd
                                                                                  · replace c77 := Bool.eq_false_iff.mpr c77
                                                                                    subst c77
                                                                                    have H1 : ((impl_in.f a0 9728 9753).bind fun t302 => (if t302 = true then (some (4, 1)) else ((impl_in.f a0 9984 10009).bind fun t303 => (if t303 = true then (impl_kind.j9 kj73 a0 true) else ((impl_in.f a0 10032 10035).bind fun t304 => (impl_kind.j9 kj73 a0 t304)))))) = some (r1, r2) := by rw [if_neg (show ¬ (false = true) by decide)] at H; exact H
                                                                                    clear H
                                                                                    have H := H1
                                                                                    clear H1
                                                                                    replace H := Option.bind_eq_some_iff.mp H
                                                                                    obtain ⟨t302, A790, H⟩ := H
                                                                                    replace H : (if t302 = true then (some (4, 1)) else ((impl_in.f a0 9984 10009).bind fun t303 => (if t303 = true then (impl_kind.j9 kj73 a0 true) else ((impl_in.f a0 10032 10035).bind fun t304 => (impl_kind.j9 kj73 a0 t304))))) = some (r1, r2) := H
                                                                                    have A79 := am A790
                                                                                    clear A790
                                                                                    by_cases c80 : t302 = true
                                                                                    · subst c80
                                                                                      have H1 : (some (4, 1)) = some (r1, r2) := by rw [if_pos rfl] at H; exact H
                                                                                      clear H
                                                                                      have H := H1
                                                                                      clear H1
                                                                                      simp only [Option.some.injEq, Prod.mk.injEq] at H
                                                                                      obtain ⟨rfl, rfl⟩ := H
                                                                                      go_wp2_with (first | ((with_reducible refine gate_callee (f := 99) rfl ?_); refine gl 157 Tryd.func99 #[.int .i64 a0, .int .i64 9728, .int .i64 9753] ?_; (with_reducible refine (impl_in.calls a0 9728 9753 true _ A79.out).mono ?_); rintro e w' ⟨rfl, ⟨nd, rfl⟩⟩; refine ⟨_, rfl, ?_⟩))
                                                                                      go_ret2
                                                                                      exact rdd
                                                                                    · replace c80 := Bool.eq_false_iff.mpr c80
                                                                                      subst c80
                                                                                      have H1 : ((impl_in.f a0 9984 10009).bind fun t303 => (if t303 = true then (impl_kind.j9 kj73 a0 true) else ((impl_in.f a0 10032 10035).bind fun t304 => (impl_kind.j9 kj73 a0 t304)))) = some (r1, r2) := by rw [if_neg (show ¬ (false = true) by decide)] at H; exact H
                                                                                      clear H
                                                                                      have H := H1
                                                                                      clear H1
                                                                                      have HC81 := am H
                                                                                      clear H
                                                                                      go_upto_region 55 with (first | ((with_reducible refine gate_callee (f := 99) rfl ?_); refine gl 157 Tryd.func99 #[.int .i64 a0, .int .i64 9728, .int .i64 9753] ?_; (with_reducible refine (impl_in.calls a0 9728 9753 false _ A79.out).mono ?_); rintro e w' ⟨rfl, ⟨nd, rfl⟩⟩; refine ⟨_, rfl, ?_⟩))
                                                                                      (try simp only [Act.put, List.setIfInBounds_toArray, List.set_cons_zero, List.set_cons_succ])
                                                                                      go_cut [158] (fun v158 wc => ∃ (kq : Nat) (x158_80 : Bool), v158 = .bool x158_80 ∧ Aside0 (impl_kind.j9 kq a0 x158_80 = some (r1, r2)) ∧ Aside0 (kq ≤ kj73) ∧ Drawn0 w wc)
                                                                                      case first =>
                                                                                        as_aux_lemma =>
                                                                                          have H := HC81.out
                                                                                          clear HC81
                                                                                          replace H := Option.bind_eq_some_iff.mp H
                                                                                          obtain ⟨t303, A820, H⟩ := H
                                                                                          replace H : (if t303 = true then (impl_kind.j9 kj73 a0 true) else ((impl_in.f a0 10032 10035).bind fun t304 => (impl_kind.j9 kj73 a0 t304))) = some (r1, r2) := H
                                                                                          have A82 := am A820
                                                                                          clear A820
                                                                                          by_cases c83 : t303 = true
                                                                                          · subst c83
                                                                                            have H1 : (impl_kind.j9 kj73 a0 true) = some (r1, r2) := by rw [if_pos rfl] at H; exact H
                                                                                            clear H
                                                                                            have H := H1
                                                                                            clear H1
                                                                                            have H' := am H
                                                                                            clear H
                                                                                            go_wp2_with (first | ((with_reducible refine gate_callee (f := 99) rfl ?_); refine gl 160 Tryd.func99 #[.int .i64 a0, .int .i64 9984, .int .i64 10009] ?_; (with_reducible refine (impl_in.calls a0 9984 10009 true _ A82.out).mono ?_); rintro e w' ⟨rfl, ⟨nd, rfl⟩⟩; refine ⟨_, rfl, ?_⟩))
                                                                                            go_meet
                                                                                            case rel => exact ⟨_, (true), (by first | rfl | (simp; done) | (simp [*]; done)), H', ⟨by have := HJ17.out; have := HJ22.out; have := HJ43.out; have := HJ50.out; have := HJ63.out; have := HJ68.out; have := HJ73.out; first | omega | exact Nat.le_refl _⟩, by repeat (first | exact Drawn0.refl _ | apply Drawn0.step)⟩
                                                                                          · replace c83 := Bool.eq_false_iff.mpr c83
                                                                                            subst c83
                                                                                            have H1 : ((impl_in.f a0 10032 10035).bind fun t304 => (impl_kind.j9 kj73 a0 t304)) = some (r1, r2) := by rw [if_neg (show ¬ (false = true) by decide)] at H; exact H
                                                                                            clear H
                                                                                            have H := H1
                                                                                            clear H1
                                                                                            replace H := Option.bind_eq_some_iff.mp H
                                                                                            obtain ⟨t304, A840, H⟩ := H
                                                                                            replace H : (impl_kind.j9 kj73 a0 t304) = some (r1, r2) := H
                                                                                            have A84 := am A840
                                                                                            clear A840
                                                                                            have H' := am H
                                                                                            clear H
                                                                                            go_wp2_with (first | ((with_reducible refine gate_callee (f := 99) rfl ?_); refine gl 160 Tryd.func99 #[.int .i64 a0, .int .i64 9984, .int .i64 10009] ?_; (with_reducible refine (impl_in.calls a0 9984 10009 false _ A82.out).mono ?_); rintro e w' ⟨rfl, ⟨nd, rfl⟩⟩; refine ⟨_, rfl, ?_⟩) | (go_at_call 99; (with_reducible refine (impl_in.calls a0 10032 10035 t304 _ A84.out).mono ?_); rintro e w' ⟨rfl, ⟨nd, rfl⟩⟩))
                                                                                            go_meet
                                                                                            case rel => exact ⟨_, (t304), (by first | rfl | (simp; done) | (simp [*]; done)), H', ⟨by have := HJ17.out; have := HJ22.out; have := HJ43.out; have := HJ50.out; have := HJ63.out; have := HJ68.out; have := HJ73.out; first | omega | exact Nat.le_refl _⟩, by repeat (first | exact Drawn0.refl _ | apply Drawn0.step)⟩
                                                                                      case rest =>
                                                                                        as_aux_lemma =>
                                                                                          clear HC81
                                                                                          try clear c1
                                                                                          try clear c2
                                                                                          try clear p2
                                                                                          try clear c3
                                                                                          try clear c3b0
                                                                                          try clear c4
                                                                                          try clear c5
                                                                                          try clear c5b0
                                                                                          try clear c6
                                                                                          try clear p6
                                                                                          try clear c7
                                                                                          try clear c8
                                                                                          try clear c9
                                                                                          try clear c9b0
                                                                                          try clear c11
                                                                                          try clear c12
                                                                                          try clear c13
                                                                                          try clear c15
                                                                                          try clear c17
                                                                                          try clear c20
                                                                                          try clear c22
                                                                                          try clear c24
                                                                                          try clear c24b0
                                                                                          try clear c24b1
                                                                                          try clear c25
                                                                                          try clear c25b0
                                                                                          try clear c25b1
                                                                                          try clear c26
                                                                                          try clear c28
                                                                                          try clear c30
                                                                                          try clear c32
                                                                                          try clear c34
                                                                                          try clear c35
                                                                                          try clear c35b0
                                                                                          try clear c35b1
                                                                                          try clear c37
                                                                                          try clear c39
                                                                                          try clear c41
                                                                                          try clear c43
                                                                                          try clear c46
                                                                                          try clear c47
                                                                                          try clear c47b0
                                                                                          try clear c47b1
                                                                                          try clear c48
                                                                                          try clear c50
                                                                                          try clear c53
                                                                                          try clear c55
                                                                                          try clear c57
                                                                                          try clear c59
                                                                                          try clear c61
                                                                                          try clear c63
                                                                                          try clear p64
                                                                                          try clear c66
                                                                                          try clear c68
                                                                                          try clear c71
                                                                                          try clear c72
                                                                                          try clear c72b0
                                                                                          try clear c72b1
                                                                                          try clear c73
                                                                                          try clear c76
                                                                                          try clear c77
                                                                                          try clear c78
                                                                                          try clear c78b0
                                                                                          try clear c80
                                                                                          try clear c83
                                                                                          try clear p2
                                                                                          try clear p6
                                                                                          try clear p64
                                                                                          obtain ⟨kq, x158_80, rfl, HA, HJ80, ⟨mc80, rfl⟩⟩ := hcut
                                                                                          cases kq with
                                                                                          | zero => exact absurd HA.out (by simp [impl_kind.j9])
                                                                                          | succ kj80 =>
                                                                                            have H := HA.out
                                                                                            clear HA
                                                                                            simp only [impl_kind.j9] at H
                                                                                            by_cases c85 : x158_80 = true
                                                                                            · subst c85
                                                                                              have H1 : (some (10, 0)) = some (r1, r2) := by rw [if_pos rfl] at H; exact H
                                                                                              clear H
                                                                                              have H := H1
                                                                                              clear H1
                                                                                              simp only [Option.some.injEq, Prod.mk.injEq] at H
                                                                                              obtain ⟨rfl, rfl⟩ := H
                                                                                              go_wp2
                                                                                              go_ret2
                                                                                              exact rdd
                                                                                            · replace c85 := Bool.eq_false_iff.mpr c85
                                                                                              subst c85
                                                                                              have H1 : ((impl_in.f a0 10016 10025).bind fun t305 => (if t305 = true then (some (8, 0)) else ((impl_in.f a0 24576 26623).bind fun t306 => (if t306 = true then (some (7, 9)) else (some (0, 0)))))) = some (r1, r2) := by rw [if_neg (show ¬ (false = true) by decide)] at H; exact H
                                                                                              clear H
                                                                                              have H := H1
                                                                                              clear H1
                                                                                              replace H := Option.bind_eq_some_iff.mp H
                                                                                              obtain ⟨t305, A860, H⟩ := H
                                                                                              replace H : (if t305 = true then (some (8, 0)) else ((impl_in.f a0 24576 26623).bind fun t306 => (if t306 = true then (some (7, 9)) else (some (0, 0))))) = some (r1, r2) := H
                                                                                              have A86 := am A860
                                                                                              clear A860
                                                                                              by_cases c87 : t305 = true
                                                                                              · subst c87
                                                                                                have H1 : (some (8, 0)) = some (r1, r2) := by rw [if_pos rfl] at H; exact H
                                                                                                clear H
                                                                                                have H := H1
                                                                                                clear H1
                                                                                                simp only [Option.some.injEq, Prod.mk.injEq] at H
                                                                                                obtain ⟨rfl, rfl⟩ := H
                                                                                                go_wp2_with (first | ((with_reducible refine gate_callee (f := 99) rfl ?_); refine gl 167 Tryd.func99 #[.int .i64 a0, .int .i64 10016, .int .i64 10025] ?_; (with_reducible refine (impl_in.calls a0 10016 10025 true _ A86.out).mono ?_); rintro e w' ⟨rfl, ⟨nd, rfl⟩⟩; refine ⟨_, rfl, ?_⟩))
                                                                                                go_ret2
                                                                                                exact rdd
                                                                                              · replace c87 := Bool.eq_false_iff.mpr c87
                                                                                                subst c87
                                                                                                have H1 : ((impl_in.f a0 24576 26623).bind fun t306 => (if t306 = true then (some (7, 9)) else (some (0, 0)))) = some (r1, r2) := by rw [if_neg (show ¬ (false = true) by decide)] at H; exact H
                                                                                                clear H
                                                                                                have H := H1
                                                                                                clear H1
                                                                                                replace H := Option.bind_eq_some_iff.mp H
                                                                                                obtain ⟨t306, A880, H⟩ := H
                                                                                                replace H : (if t306 = true then (some (7, 9)) else (some (0, 0))) = some (r1, r2) := H
                                                                                                have A88 := am A880
                                                                                                clear A880
                                                                                                by_cases c89 : t306 = true
                                                                                                · subst c89
                                                                                                  have H1 : (some (7, 9)) = some (r1, r2) := by rw [if_pos rfl] at H; exact H
                                                                                                  clear H
                                                                                                  have H := H1
                                                                                                  clear H1
                                                                                                  simp only [Option.some.injEq, Prod.mk.injEq] at H
                                                                                                  obtain ⟨rfl, rfl⟩ := H
                                                                                                  go_wp2_with (first | ((with_reducible refine gate_callee (f := 99) rfl ?_); refine gl 167 Tryd.func99 #[.int .i64 a0, .int .i64 10016, .int .i64 10025] ?_; (with_reducible refine (impl_in.calls a0 10016 10025 false _ A86.out).mono ?_); rintro e w' ⟨rfl, ⟨nd, rfl⟩⟩; refine ⟨_, rfl, ?_⟩) | ((with_reducible refine gate_callee (f := 99) rfl ?_); refine gl 170 Tryd.func99 #[.int .i64 a0, .int .i64 24576, .int .i64 26623] ?_; (with_reducible refine (impl_in.calls a0 24576 26623 true _ A88.out).mono ?_); rintro e w' ⟨rfl, ⟨nd, rfl⟩⟩; refine ⟨_, rfl, ?_⟩))
                                                                                                  go_ret2
                                                                                                  exact rdd
                                                                                                · replace c89 := Bool.eq_false_iff.mpr c89
                                                                                                  subst c89
                                                                                                  have H1 : (some (0, 0)) = some (r1, r2) := by rw [if_neg (show ¬ (false = true) by decide)] at H; exact H
                                                                                                  clear H
                                                                                                  have H := H1
                                                                                                  clear H1
                                                                                                  simp only [Option.some.injEq, Prod.mk.injEq] at H
                                                                                                  obtain ⟨rfl, rfl⟩ := H
                                                                                                  go_wp2_with (first | ((with_reducible refine gate_callee (f := 99) rfl ?_); refine gl 167 Tryd.func99 #[.int .i64 a0, .int .i64 10016, .int .i64 10025] ?_; (with_reducible refine (impl_in.calls a0 10016 10025 false _ A86.out).mono ?_); rintro e w' ⟨rfl, ⟨nd, rfl⟩⟩; refine ⟨_, rfl, ?_⟩) | ((with_reducible refine gate_callee (f := 99) rfl ?_); refine gl 170 Tryd.func99 #[.int .i64 a0, .int .i64 24576, .int .i64 26623] ?_; (with_reducible refine (impl_in.calls a0 24576 26623 false _ A88.out).mono ?_); rintro e w' ⟨rfl, ⟨nd, rfl⟩⟩; refine ⟨_, rfl, ?_⟩))
                                                                                                  go_ret2
                                                                                                  exact rdd

end Go.Proofs.YtmlhnpggjkoinaaDoor.PFnExactFewestWords
