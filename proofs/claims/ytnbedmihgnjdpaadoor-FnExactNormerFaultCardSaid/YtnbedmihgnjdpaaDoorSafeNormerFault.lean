/- A point's class, whether it is a second part, whether it is safe in a form: both texts say the same. -/
import Derived.Test.YtnbedmihgnjdpaaDoorDecompNormerFault
set_option linter.unusedSimpArgs false
set_option linter.unusedVariables false
namespace Go.Proofs.YtnbedmihgnjdpaaDoor.PFnExactNormerFault
open Go.RowKit Go.Proofs.YtnbedmihgnjdpaaDoorW.PrintWords Go.Proofs.YtnbedmihgnjdpaaDoorW.PrintLast Go.Proofs.YtnbedmihgnjdpaaDoorW.PrintMore Go.Proofs.YtnbedmihgnjdpaaDoor.Lib

def cls (x : Int) : Int := if x = 1584 then 9 else if x = 1585 then 7 else if 4096 ≤ x ∧ x ≤ 4159 then (if x < 4112 then 230 else if x < 4128 then 220 else if x < 4136 then 202 else if x < 4144 then 1 else if x < 4152 then 232 else 0) else 0
def sec (x : Int) : Bool := decide ((4096 ≤ x ∧ x ≤ 4103) ∨ (4112 ≤ x ∧ x ≤ 4119) ∨ (1824 ≤ x ∧ x ≤ 1844) ∨ (1857 ≤ x ∧ x ≤ 1883))
theorem cls_range (x : Int) : 0 ≤ cls x ∧ cls x ≤ 232 := by
  unfold cls
  repeat' split
  all_goals omega
theorem cls_impl (x : Int) : impl_MarkClass.f x = some (cls x) := by
  unfold impl_MarkClass.f cls
  by_cases a : x = 1584
  · rw [if_pos a, if_pos a]
  · rw [if_neg a, if_neg a]
    by_cases b : x = 1585
    · rw [if_pos b, if_pos b]
    · rw [if_neg b, if_neg b, dinF, Option.bind_some]
      by_cases c : 4096 ≤ x ∧ x ≤ 4159
      · rw [ite_t (decide_eq_true c), if_pos c]
        repeat' split
        all_goals rfl
      · rw [ite_f (decide_eq_false c), if_neg c]
theorem cls_spec (x : Int) (k : Nat) : spec_l01Class.f (k + 1) x = some (cls x) := by
  unfold spec_l01Class.f cls
  by_cases a : x = 1584
  · rw [if_pos a, if_pos a]
  · rw [if_neg a, if_neg a]
    by_cases b : x = 1585
    · rw [if_pos b, if_pos b]
    · rw [if_neg b, if_neg b]
      by_cases c : x < 4096
      · rw [if_pos c, if_neg (by omega), spec_l01Class.j0, ite_t rfl]
      · rw [if_neg c]
        by_cases d : x > 4159
        · rw [decide_eq_true d, if_neg (by omega), spec_l01Class.j0, ite_t rfl]
        · rw [decide_eq_false d, if_pos (by omega), spec_l01Class.j0, ite_f rfl, w64 (x := x - 4096) (by omega) (by omega)]
          by_cases e1 : x < 4112
          · rw [if_pos (by omega), if_pos e1]
          · rw [if_neg (by omega), if_neg e1]
            by_cases e2 : x < 4128
            · rw [if_pos (by omega), if_pos e2]
            · rw [if_neg (by omega), if_neg e2]
              by_cases e3 : x < 4136
              · rw [if_pos (by omega), if_pos e3]
              · rw [if_neg (by omega), if_neg e3]
                by_cases e4 : x < 4144
                · rw [if_pos (by omega), if_pos e4]
                · rw [if_neg (by omega), if_neg e4]
                  by_cases e5 : x < 4152
                  · rw [if_pos (by omega), if_pos e5]
                  · rw [if_neg (by omega), if_neg e5]
theorem sec_impl (x : Int) : impl_isSecond.f x = some (sec x) := by
  unfold impl_isSecond.f sec
  rw [dinF, Option.bind_some, dinF, Option.bind_some, dinF, Option.bind_some, dinF, Option.bind_some]
  by_cases a : 4096 ≤ x ∧ x ≤ 4103
  · rw [ite_t (decide_eq_true a), decide_eq_true (by omega)]
  · rw [ite_f (decide_eq_false a)]
    by_cases b : 4112 ≤ x ∧ x ≤ 4119
    · rw [ite_t (decide_eq_true b), decide_eq_true (by omega)]
    · rw [ite_f (decide_eq_false b)]
      by_cases c : 1824 ≤ x ∧ x ≤ 1844
      · rw [ite_t (decide_eq_true c), decide_eq_true (show ((4096 ≤ x ∧ x ≤ 4103) ∨ (4112 ≤ x ∧ x ≤ 4119) ∨ (1824 ≤ x ∧ x ≤ 1844) ∨ (1857 ≤ x ∧ x ≤ 1883)) by omega)]
      · rw [ite_f (decide_eq_false c)]
        exact congrArg some (decide_eq_decide.2 (by omega))
theorem sec_spec (x : Int) : spec_l05Second.f x = some (sec x) := by
  have h4 : ∀ y : Bool, (if x ≥ 1857 then (some (decide (x ≤ 1883))) else (some false)) = some (decide (1857 ≤ x ∧ x ≤ 1883)) := by
    intro _
    by_cases a : x ≥ 1857
    · rw [if_pos a]; exact congrArg some (decide_eq_decide.2 (by omega))
    · rw [if_neg a, decide_eq_false (show ¬ (1857 ≤ x ∧ x ≤ 1883) by omega)]
  have h3 : (if x ≥ 1824 then (if x ≤ 1844 then (some true) else (some (decide (1857 ≤ x ∧ x ≤ 1883)))) else (some (decide (1857 ≤ x ∧ x ≤ 1883)))) = some (decide ((1824 ≤ x ∧ x ≤ 1844) ∨ (1857 ≤ x ∧ x ≤ 1883))) := by
    by_cases a : x ≥ 1824
    · rw [if_pos a]
      by_cases b : x ≤ 1844
      · rw [if_pos b, decide_eq_true (show ((1824 ≤ x ∧ x ≤ 1844) ∨ (1857 ≤ x ∧ x ≤ 1883)) by omega)]
      · rw [if_neg b]; exact congrArg some (decide_eq_decide.2 (by omega))
    · rw [if_neg a]; exact congrArg some (decide_eq_decide.2 (by omega))
  have h2 : (if x ≥ 4112 then (if x ≤ 4119 then (some true) else (some (decide ((1824 ≤ x ∧ x ≤ 1844) ∨ (1857 ≤ x ∧ x ≤ 1883))))) else (some (decide ((1824 ≤ x ∧ x ≤ 1844) ∨ (1857 ≤ x ∧ x ≤ 1883))))) = some (decide ((4112 ≤ x ∧ x ≤ 4119) ∨ (1824 ≤ x ∧ x ≤ 1844) ∨ (1857 ≤ x ∧ x ≤ 1883))) := by
    by_cases a : x ≥ 4112
    · rw [if_pos a]
      by_cases b : x ≤ 4119
      · rw [if_pos b, decide_eq_true (show ((4112 ≤ x ∧ x ≤ 4119) ∨ (1824 ≤ x ∧ x ≤ 1844) ∨ (1857 ≤ x ∧ x ≤ 1883)) by omega)]
      · rw [if_neg b]; exact congrArg some (decide_eq_decide.2 (by omega))
    · rw [if_neg a]; exact congrArg some (decide_eq_decide.2 (by omega))
  unfold spec_l05Second.f sec
  simp only [h4 true, h3, h2]
  by_cases a : x ≥ 4096
  · rw [if_pos a]
    by_cases b : x ≤ 4103
    · rw [if_pos b, decide_eq_true (show ((4096 ≤ x ∧ x ≤ 4103) ∨ (4112 ≤ x ∧ x ≤ 4119) ∨ (1824 ≤ x ∧ x ≤ 1844) ∨ (1857 ≤ x ∧ x ≤ 1883)) by omega)]
    · rw [if_neg b]; exact congrArg some (decide_eq_decide.2 (by omega))
  · rw [if_neg a]; exact congrArg some (decide_eq_decide.2 (by omega))
def sf (p f : Int) : Bool := if cls (rd (dcm p (decide (f ≥ 3))) 0) = 0 then !sec (rd (dcm p (decide (f ≥ 3))) 0) else false
theorem safe_impl (p f : Int) (hp : -9223372036854775808 ≤ p ∧ p ≤ 9223372036854775807) (k : Nat) : impl_safe.f (k + 13) p f = some (sf p f) := by
  unfold impl_safe.f sf
  have := dcm_len p (decide (f ≥ 3))
  rw [impl_dcm p hp, Option.bind_some, if_pos (by omega), cls_impl, Option.bind_some, sec_impl, Option.bind_some]
  split <;> rfl
theorem safe_spec (p f : Int) (hp : -9223372036854775808 ≤ p ∧ p ≤ 9223372036854775807) (k : Nat) : spec_l05Safe.f (k + 17) f p = some (sf p f) := by
  unfold spec_l05Safe.f spec_l05K.f sf
  have := dcm_len p (decide (f ≥ 3))
  rw [Option.bind_some, spec_dcm p hp, Option.bind_some, if_pos (by omega), show k + 17 = (k + 16) + 1 from rfl, cls_spec, Option.bind_some, sec_spec, Option.bind_some]
  split <;> rfl

end Go.Proofs.YtnbedmihgnjdpaaDoor.PFnExactNormerFault
