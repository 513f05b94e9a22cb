import Derived.Test.YtooagmggibdlbaaGLyndonBruijn
import Derived.Test.YtooagmggibdlbaaSxW
import Derived.Test.YtooagmggibdlbaaSxV2
set_option linter.unusedVariables false
namespace Go.Proofs.YtooagmggibdlbaaSx.LB
theorem t1_1 : evermorelaw_LyndonBruijn.f 4000 1 1 = some true := by kernel_rfl
theorem t1_2 : evermorelaw_LyndonBruijn.f 4000 1 2 = some true := by kernel_rfl
theorem t1_3 : evermorelaw_LyndonBruijn.f 4000 1 3 = some true := by kernel_rfl
theorem t1_4 : evermorelaw_LyndonBruijn.f 4000 1 4 = some true := by kernel_rfl
theorem t1_5 : evermorelaw_LyndonBruijn.f 4000 1 5 = some true := by kernel_rfl
theorem t1_6 : evermorelaw_LyndonBruijn.f 4000 1 6 = some true := by kernel_rfl
theorem t1_7 : evermorelaw_LyndonBruijn.f 4000 1 7 = some true := by kernel_rfl
theorem t1_8 : evermorelaw_LyndonBruijn.f 4000 1 8 = some true := by kernel_rfl
theorem t2_1 : evermorelaw_LyndonBruijn.f 4000 2 1 = some true := by kernel_rfl
theorem t2_2 : evermorelaw_LyndonBruijn.f 4000 2 2 = some true := by kernel_rfl
theorem t2_3 : evermorelaw_LyndonBruijn.f 4000 2 3 = some true := by kernel_rfl
theorem t2_4 : evermorelaw_LyndonBruijn.f 4000 2 4 = some true := by kernel_rfl
theorem t2_5 : evermorelaw_LyndonBruijn.f 4000 2 5 = some true := by kernel_rfl
theorem t2_6 : evermorelaw_LyndonBruijn.f 4000 2 6 = some true := by kernel_rfl
theorem t2_7 : evermorelaw_LyndonBruijn.f 4000 2 7 = some true := by kernel_rfl
theorem t2_8 : evermorelaw_LyndonBruijn.f 4000 2 8 = some true := by kernel_rfl
theorem t3_1 : evermorelaw_LyndonBruijn.f 4000 3 1 = some true := by kernel_rfl
theorem t3_2 : evermorelaw_LyndonBruijn.f 4000 3 2 = some true := by kernel_rfl
theorem t3_3 : evermorelaw_LyndonBruijn.f 4000 3 3 = some true := by kernel_rfl
theorem t3_4 : evermorelaw_LyndonBruijn.f 4000 3 4 = some true := by kernel_rfl
theorem t3_5 : evermorelaw_LyndonBruijn.f 4000 3 5 = some true := by kernel_rfl
theorem t3_6 : evermorelaw_LyndonBruijn.f 4000 3 6 = some true := by kernel_rfl
theorem t3_7 : evermorelaw_LyndonBruijn.f 4000 3 7 = some true := by kernel_rfl
theorem t3_8 : evermorelaw_LyndonBruijn.f 4000 3 8 = some true := by kernel_rfl
theorem t4_1 : evermorelaw_LyndonBruijn.f 4000 4 1 = some true := by kernel_rfl
theorem t4_2 : evermorelaw_LyndonBruijn.f 4000 4 2 = some true := by kernel_rfl
theorem t4_3 : evermorelaw_LyndonBruijn.f 4000 4 3 = some true := by kernel_rfl
theorem t4_4 : evermorelaw_LyndonBruijn.f 4000 4 4 = some true := by kernel_rfl
theorem t4_5 : evermorelaw_LyndonBruijn.f 4000 4 5 = some true := by kernel_rfl
theorem t4_6 : evermorelaw_LyndonBruijn.f 4000 4 6 = some true := by kernel_rfl
theorem t4_7 : evermorelaw_LyndonBruijn.f 4000 4 7 = some true := by kernel_rfl
theorem t4_8 : evermorelaw_LyndonBruijn.f 4000 4 8 = some true := by kernel_rfl
theorem out (x y : Int) (h : x < 1 ∨ 4 < x ∨ y < 1 ∨ 8 < y) : evermorelaw_LyndonBruijn.f 5 x y = some true := by
  have j : ∀ w : List Int, w = [] → evermorelaw_LyndonBruijn.j8 5 x y 2 2 w = some true := by
    intro w hw; subst hw
    rw [evermorelaw_LyndonBruijn.j8, if_neg (by decide), if_pos rfl]; rfl
  rw [evermorelaw_LyndonBruijn.f, lyndon_Bruijn.f]
  by_cases h1 : x < 1
  · rw [if_pos h1, Option.bind_some, if_pos h1]; exact j [] rfl
  · by_cases h2 : 4 < x
    · rw [if_neg h1, if_pos h2, Option.bind_some, if_neg h1, if_pos h2]; exact j [] rfl
    · by_cases h3 : y < 1
      · rw [if_neg h1, if_neg h2, if_pos h3, Option.bind_some, if_neg h1, if_neg h2, if_pos h3]; exact j [] rfl
      · have h4 : 8 < y := by omega
        rw [if_neg h1, if_neg h2, if_neg h3, if_pos h4, Option.bind_some, if_neg h1, if_neg h2, if_neg h3, if_pos h4]; exact j [] rfl
theorem LyndonBruijn : evermorelaw_LyndonBruijn.PureH := by
  intro x0 x1 _ _
  obtain ⟨x, hx⟩ : ∃ x : Int, x = x0 := ⟨x0, rfl⟩
  obtain ⟨y, hy⟩ : ∃ y : Int, y = x1 := ⟨x1, rfl⟩
  rw [← hx, ← hy]
  by_cases h : x < 1 ∨ 4 < x ∨ y < 1 ∨ 8 < y
  · exact ⟨5, out x y h⟩
  · have hx' : x = 1 ∨ x = 2 ∨ x = 3 ∨ x = 4 := by omega
    have hy' : y = 1 ∨ y = 2 ∨ y = 3 ∨ y = 4 ∨ y = 5 ∨ y = 6 ∨ y = 7 ∨ y = 8 := by omega
    refine ⟨4000, ?_⟩
    rcases hx' with e | e | e | e <;> rcases hy' with d | d | d | d | d | d | d | d
    · rw [e, d]; exact t1_1
    · rw [e, d]; exact t1_2
    · rw [e, d]; exact t1_3
    · rw [e, d]; exact t1_4
    · rw [e, d]; exact t1_5
    · rw [e, d]; exact t1_6
    · rw [e, d]; exact t1_7
    · rw [e, d]; exact t1_8
    · rw [e, d]; exact t2_1
    · rw [e, d]; exact t2_2
    · rw [e, d]; exact t2_3
    · rw [e, d]; exact t2_4
    · rw [e, d]; exact t2_5
    · rw [e, d]; exact t2_6
    · rw [e, d]; exact t2_7
    · rw [e, d]; exact t2_8
    · rw [e, d]; exact t3_1
    · rw [e, d]; exact t3_2
    · rw [e, d]; exact t3_3
    · rw [e, d]; exact t3_4
    · rw [e, d]; exact t3_5
    · rw [e, d]; exact t3_6
    · rw [e, d]; exact t3_7
    · rw [e, d]; exact t3_8
    · rw [e, d]; exact t4_1
    · rw [e, d]; exact t4_2
    · rw [e, d]; exact t4_3
    · rw [e, d]; exact t4_4
    · rw [e, d]; exact t4_5
    · rw [e, d]; exact t4_6
    · rw [e, d]; exact t4_7
    · rw [e, d]; exact t4_8
end Go.Proofs.YtooagmggibdlbaaSx.LB
namespace Go.Proofs.Ytooagmggibdlbaa
theorem Pure.LyndonBruijn : Go.Proofs.YtooagmggibdlbaaSx.evermorelaw_LyndonBruijn.PureH := Go.Proofs.YtooagmggibdlbaaSx.LB.LyndonBruijn
end Go.Proofs.Ytooagmggibdlbaa
