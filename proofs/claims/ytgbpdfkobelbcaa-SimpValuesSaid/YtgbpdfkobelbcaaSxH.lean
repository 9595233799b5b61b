/- A part of the proofs of two laws of folding: words, a reference machine, contracts. -/
import Derived.Test.YtgbpdfkobelbcaaSxE
section
open Go Go.RowKit Go.Proofs.Ytgbpdfkobelbcaa.PSimpFolds Go.Proofs.YtgbpdfkobelbcaaW.PrintWords
set_option linter.unusedSimpArgs false
set_option linter.unusedVariables false
namespace Go.Ref
attribute [local simp] vRe.f vGr.f vGr.j0 vGr.j1 vGr.j2 r05Result.f r05operands.f r05operands.j0 r05boolean.f r05equality.f r05arithmetic.f vRe.l0 r05Result.j0 r05Result.j1 r05Result.l0 rd vAp.f vAp.l0 word_In.f vCo.f vHo.f vHo.j0 vTr.f word_Neg.f word_Add.f word_Sub.f word_Mul.f word_Div.f word_Mod.f r05Apply.f r05Apply.l0 r05Apply.j1 r05compute.f r05one.f r01Neg.f r01Add.f r01Sub.f r01Mul.f r01Div.f r01Mod.f word_Wrap.f w64_0 w64_1 w64_2
theorem res_2 (k : Nat) (l : List Int) : vRe.f (k + 20) 2 l = r05Result.f (k + 20) 2 l ∧ (vRe.f 20 2 l).isSome = true := by
  by_cases hl : l.length = 1
  · obtain ⟨a, rfl⟩ := len1 hl
    constructor
    · simp
    · simp
      repeat' split
      all_goals simp
  · have hl' : ¬ ((l.length : Int) = 1) := by omega
    constructor <;> simp [hl, hl']
theorem app_2 (k : Nat) (l : List Int) : vAp.f (k + 20) 2 l = r05Apply.f (k + 20) 2 l ∧ (vAp.f 20 2 l).isSome = true := by
  by_cases hl : l.length = 1
  · obtain ⟨a, rfl⟩ := len1 hl
    by_cases ha : -32768 ≤ a
    · by_cases ha' : a ≤ 32767
      · constructor <;> simp [← wrap_eq, ha, ha', show ¬ a < -32768 by omega, show ¬ 32767 < a by omega]
      · constructor <;> simp [← wrap_eq, ha, ha', show ¬ a < -32768 by omega, show 32767 < a by omega]
    · constructor <;> simp [← wrap_eq, ha, show a < -32768 by omega]
  · have hl' : ¬ ((l.length : Int) = 1) := by omega
    constructor <;> simp [← wrap_eq, hl, hl']
theorem res_6 (k : Nat) (l : List Int) : vRe.f (k + 20) 6 l = r05Result.f (k + 20) 6 l ∧ (vRe.f 20 6 l).isSome = true := by
  by_cases hl : l.length = 2
  · obtain ⟨a, b, rfl⟩ := len2 hl
    constructor
    · simp
    · simp
      repeat' split
      all_goals simp
  · have hl' : ¬ ((l.length : Int) = 2) := by omega
    constructor <;> simp [hl, hl']
theorem app_6 (k : Nat) (l : List Int) : vAp.f (k + 20) 6 l = r05Apply.f (k + 20) 6 l ∧ (vAp.f 20 6 l).isSome = true := by
  by_cases hl : l.length = 2
  · obtain ⟨a, b, rfl⟩ := len2 hl
    have hv := fun k => val2 k 6 2 (by omega) (by simp) a b
    have hr := ref2 k 6 (by simp) (by simp) (by simp) (by omega) (by omega) a b
    constructor
    · rw [hv k, hr]; simp [← wrap_eq]
    · rw [show (20 : Nat) = 0 + 20 from rfl, hv 0]
      repeat' split
      all_goals simp
      all_goals (try split)
      all_goals (try simp)
  · have hl' : ¬ ((l.length : Int) = 2) := by omega
    constructor <;> simp [← wrap_eq, hl, hl']
theorem res_7 (k : Nat) (l : List Int) : vRe.f (k + 20) 7 l = r05Result.f (k + 20) 7 l ∧ (vRe.f 20 7 l).isSome = true := by
  by_cases hl : l.length = 2
  · obtain ⟨a, b, rfl⟩ := len2 hl
    constructor
    · simp
    · simp
      repeat' split
      all_goals simp
  · have hl' : ¬ ((l.length : Int) = 2) := by omega
    constructor <;> simp [hl, hl']
theorem app_7 (k : Nat) (l : List Int) : vAp.f (k + 20) 7 l = r05Apply.f (k + 20) 7 l ∧ (vAp.f 20 7 l).isSome = true := by
  by_cases hl : l.length = 2
  · obtain ⟨a, b, rfl⟩ := len2 hl
    have hv := fun k => val2 k 7 2 (by omega) (by simp) a b
    have hr := ref2 k 7 (by simp) (by simp) (by simp) (by omega) (by omega) a b
    constructor
    · rw [hv k, hr]; simp [← wrap_eq]
    · rw [show (20 : Nat) = 0 + 20 from rfl, hv 0]
      repeat' split
      all_goals simp
      all_goals (try split)
      all_goals (try simp)
  · have hl' : ¬ ((l.length : Int) = 2) := by omega
    constructor <;> simp [← wrap_eq, hl, hl']
theorem res_8 (k : Nat) (l : List Int) : vRe.f (k + 20) 8 l = r05Result.f (k + 20) 8 l ∧ (vRe.f 20 8 l).isSome = true := by
  by_cases hl : l.length = 2
  · obtain ⟨a, b, rfl⟩ := len2 hl
    constructor
    · simp
    · simp
      repeat' split
      all_goals simp
  · have hl' : ¬ ((l.length : Int) = 2) := by omega
    constructor <;> simp [hl, hl']
theorem app_8 (k : Nat) (l : List Int) : vAp.f (k + 20) 8 l = r05Apply.f (k + 20) 8 l ∧ (vAp.f 20 8 l).isSome = true := by
  by_cases hl : l.length = 2
  · obtain ⟨a, b, rfl⟩ := len2 hl
    have hv := fun k => val2 k 8 2 (by omega) (by simp) a b
    have hr := ref2 k 8 (by simp) (by simp) (by simp) (by omega) (by omega) a b
    constructor
    · rw [hv k, hr]; simp [← wrap_eq]
    · rw [show (20 : Nat) = 0 + 20 from rfl, hv 0]
      repeat' split
      all_goals simp
      all_goals (try split)
      all_goals (try simp)
  · have hl' : ¬ ((l.length : Int) = 2) := by omega
    constructor <;> simp [← wrap_eq, hl, hl']
theorem res_9 (k : Nat) (l : List Int) : vRe.f (k + 20) 9 l = r05Result.f (k + 20) 9 l ∧ (vRe.f 20 9 l).isSome = true := by
  by_cases hl : l.length = 2
  · obtain ⟨a, b, rfl⟩ := len2 hl
    constructor
    · simp
    · simp
      repeat' split
      all_goals simp
  · have hl' : ¬ ((l.length : Int) = 2) := by omega
    constructor <;> simp [hl, hl']
theorem app_9 (k : Nat) (l : List Int) : vAp.f (k + 20) 9 l = r05Apply.f (k + 20) 9 l ∧ (vAp.f 20 9 l).isSome = true := by
  by_cases hl : l.length = 2
  · obtain ⟨a, b, rfl⟩ := len2 hl
    have hv := fun k => val2 k 9 2 (by omega) (by simp) a b
    have hr := ref2 k 9 (by simp) (by simp) (by simp) (by omega) (by omega) a b
    constructor
    · rw [hv k, hr]; by_cases hz : wrap64 (IntKind.i16.wrap b) = 0 <;> simp [← wrap_eq, hz]
    · rw [show (20 : Nat) = 0 + 20 from rfl, hv 0]
      repeat' split
      all_goals simp
      all_goals (try split)
      all_goals (try simp)
  · have hl' : ¬ ((l.length : Int) = 2) := by omega
    constructor <;> simp [← wrap_eq, hl, hl']
end Go.Ref
end
