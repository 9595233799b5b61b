/- A part of the proofs of two laws of folding: words, a reference machine, contracts. -/
import Derived.Test.YtgbpdfkobelbcaaSxE
section
open Go Go.RowKit Go.Proofs.Ytgbpdfkobelbcaa.PSimpFolds Go.Proofs.YtgbpdfkobelbcaaW.PrintWords
set_option linter.unusedSimpArgs false
set_option linter.unusedVariables false
namespace Go.Ref
attribute [local simp] vRe.f vGr.f vGr.j0 vGr.j1 vGr.j2 r05Result.f r05operands.f r05operands.j0 r05boolean.f r05equality.f r05arithmetic.f vRe.l0 r05Result.j0 r05Result.j1 r05Result.l0 rd vAp.f vAp.l0 word_In.f vCo.f vHo.f vHo.j0 vTr.f word_Neg.f word_Add.f word_Sub.f word_Mul.f word_Div.f word_Mod.f r05Apply.f r05Apply.l0 r05Apply.j1 r05compute.f r05one.f r01Neg.f r01Add.f r01Sub.f r01Mul.f r01Div.f r01Mod.f word_Wrap.f w64_0 w64_1 w64_2
theorem res_1 (k : Nat) (l : List Int) : vRe.f (k + 20) 1 l = r05Result.f (k + 20) 1 l ∧ (vRe.f 20 1 l).isSome = true := by
  by_cases hl : l.length = 1
  · obtain ⟨a, rfl⟩ := len1 hl
    constructor
    · simp
    · simp
      repeat' split
      all_goals simp
  · have hl' : ¬ ((l.length : Int) = 1) := by omega
    constructor <;> simp [hl, hl']
theorem app_1 (k : Nat) (l : List Int) : vAp.f (k + 20) 1 l = r05Apply.f (k + 20) 1 l ∧ (vAp.f 20 1 l).isSome = true := by
  by_cases hl : l.length = 1
  · obtain ⟨a, rfl⟩ := len1 hl
    have h01 : ¬ ((0 : Int) = 1) := by decide
    by_cases a0 : a = 0
    · subst a0; constructor <;> simp [← wrap_eq, wrap64]
    · by_cases a1 : a = 1
      · subst a1; constructor <;> simp [← wrap_eq, wrap64]
      · constructor <;> simp [← wrap_eq, a0, a1]
  · have hl' : ¬ ((l.length : Int) = 1) := by omega
    constructor <;> simp [← wrap_eq, hl, hl']
theorem res_3 (k : Nat) (l : List Int) : vRe.f (k + 20) 3 l = r05Result.f (k + 20) 3 l ∧ (vRe.f 20 3 l).isSome = true := by
  by_cases hl : l.length = 2
  · obtain ⟨a, b, rfl⟩ := len2 hl
    constructor
    · simp
    · simp
      repeat' split
      all_goals simp
  · have hl' : ¬ ((l.length : Int) = 2) := by omega
    constructor <;> simp [hl, hl']
theorem app_3 (k : Nat) (l : List Int) : vAp.f (k + 20) 3 l = r05Apply.f (k + 20) 3 l ∧ (vAp.f 20 3 l).isSome = true := by
  by_cases hl : l.length = 2
  · obtain ⟨a, b, rfl⟩ := len2 hl
    have h01 : ¬ ((0 : Int) = 1) := by decide
    by_cases a0 : a = 0
    · subst a0
      by_cases b0 : b = 0
      · subst b0; constructor <;> simp [← wrap_eq, wrap64]
      · by_cases b1 : b = 1
        · subst b1; constructor <;> simp [← wrap_eq, wrap64]
        · constructor <;> simp [← wrap_eq, b0, b1]
    · by_cases a1 : a = 1
      · subst a1
        by_cases b0 : b = 0
        · subst b0; constructor <;> simp [← wrap_eq, wrap64]
        · by_cases b1 : b = 1
          · subst b1; constructor <;> simp [← wrap_eq, wrap64]
          · constructor <;> simp [← wrap_eq, b0, b1]
      · constructor <;> simp [← wrap_eq, a0, a1]
  · have hl' : ¬ ((l.length : Int) = 2) := by omega
    constructor <;> simp [← wrap_eq, hl, hl']
end Go.Ref
end
