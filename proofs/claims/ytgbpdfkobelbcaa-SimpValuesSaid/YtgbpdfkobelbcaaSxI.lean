/- A part of the proofs of two laws of folding: words, a reference machine, contracts. -/
import Derived.Test.YtgbpdfkobelbcaaSxE
section
open Go Go.RowKit Go.Proofs.Ytgbpdfkobelbcaa.PSimpFolds Go.Proofs.YtgbpdfkobelbcaaW.PrintWords
set_option linter.unusedSimpArgs false
set_option linter.unusedVariables false
namespace Go.Ref
attribute [local simp] vRe.f vGr.f vGr.j0 vGr.j1 vGr.j2 r05Result.f r05operands.f r05operands.j0 r05boolean.f r05equality.f r05arithmetic.f vRe.l0 r05Result.j0 r05Result.j1 r05Result.l0 rd vAp.f vAp.l0 word_In.f vCo.f vHo.f vHo.j0 vTr.f word_Neg.f word_Add.f word_Sub.f word_Mul.f word_Div.f word_Mod.f r05Apply.f r05Apply.l0 r05Apply.j1 r05compute.f r05one.f r01Neg.f r01Add.f r01Sub.f r01Mul.f r01Div.f r01Mod.f word_Wrap.f w64_0 w64_1 w64_2
theorem res_10 (k : Nat) (l : List Int) : vRe.f (k + 20) 10 l = r05Result.f (k + 20) 10 l ∧ (vRe.f 20 10 l).isSome = true := by
  by_cases hl : l.length = 2
  · obtain ⟨a, b, rfl⟩ := len2 hl
    constructor
    · simp
    · simp
      repeat' split
      all_goals simp
  · have hl' : ¬ ((l.length : Int) = 2) := by omega
    constructor <;> simp [hl, hl']
theorem app_10 (k : Nat) (l : List Int) : vAp.f (k + 20) 10 l = r05Apply.f (k + 20) 10 l ∧ (vAp.f 20 10 l).isSome = true := by
  by_cases hl : l.length = 2
  · obtain ⟨a, b, rfl⟩ := len2 hl
    have hv := fun k => val2 k 10 2 (by omega) (by simp) a b
    have hr := ref2 k 10 (by simp) (by simp) (by simp) (by omega) (by omega) a b
    constructor
    · rw [hv k, hr]; by_cases hz : wrap64 (IntKind.i16.wrap b) = 0 <;> simp [← wrap_eq, hz]
    · rw [show (20 : Nat) = 0 + 20 from rfl, hv 0]
      repeat' split
      all_goals simp
      all_goals (try split)
      all_goals (try simp)
  · have hl' : ¬ ((l.length : Int) = 2) := by omega
    constructor <;> simp [← wrap_eq, hl, hl']
theorem res_11 (k : Nat) (l : List Int) : vRe.f (k + 20) 11 l = r05Result.f (k + 20) 11 l ∧ (vRe.f 20 11 l).isSome = true := by
  by_cases hl : l.length = 2
  · obtain ⟨a, b, rfl⟩ := len2 hl
    constructor
    · by_cases h2 : b = a
      · subst h2; by_cases h1 : b < 1 <;> simp [h1]
      · by_cases h1 : a < 1 <;> simp [h1, h2]
    · simp
      repeat' split
      all_goals simp
  · have hl' : ¬ ((l.length : Int) = 2) := by omega
    constructor <;> simp [hl, hl']
theorem app_11 (k : Nat) (l : List Int) : vAp.f (k + 20) 11 l = r05Apply.f (k + 20) 11 l ∧ (vAp.f 20 11 l).isSome = true := by
  by_cases hl : l.length = 2
  · obtain ⟨a, b, rfl⟩ := len2 hl
    constructor <;> simp [← wrap_eq] <;> split <;> simp
  · have hl' : ¬ ((l.length : Int) = 2) := by omega
    constructor <;> simp [← wrap_eq, hl, hl']
theorem res_12 (k : Nat) (l : List Int) : vRe.f (k + 20) 12 l = r05Result.f (k + 20) 12 l ∧ (vRe.f 20 12 l).isSome = true := by
  by_cases hl : l.length = 2
  · obtain ⟨a, b, rfl⟩ := len2 hl
    constructor
    · by_cases h2 : b = a
      · subst h2; by_cases h1 : b < 1 <;> simp [h1]
      · by_cases h1 : a < 1 <;> simp [h1, h2]
    · simp
      repeat' split
      all_goals simp
  · have hl' : ¬ ((l.length : Int) = 2) := by omega
    constructor <;> simp [hl, hl']
theorem app_12 (k : Nat) (l : List Int) : vAp.f (k + 20) 12 l = r05Apply.f (k + 20) 12 l ∧ (vAp.f 20 12 l).isSome = true := by
  by_cases hl : l.length = 2
  · obtain ⟨a, b, rfl⟩ := len2 hl
    constructor <;> simp [← wrap_eq] <;> split <;> simp
  · have hl' : ¬ ((l.length : Int) = 2) := by omega
    constructor <;> simp [← wrap_eq, hl, hl']
theorem res_13 (k : Nat) (l : List Int) : vRe.f (k + 20) 13 l = r05Result.f (k + 20) 13 l ∧ (vRe.f 20 13 l).isSome = true := by
  by_cases hl : l.length = 2
  · obtain ⟨a, b, rfl⟩ := len2 hl
    constructor
    · simp
    · simp
      repeat' split
      all_goals simp
  · have hl' : ¬ ((l.length : Int) = 2) := by omega
    constructor <;> simp [hl, hl']
theorem app_13 (k : Nat) (l : List Int) : vAp.f (k + 20) 13 l = r05Apply.f (k + 20) 13 l ∧ (vAp.f 20 13 l).isSome = true := by
  by_cases hl : l.length = 2
  · obtain ⟨a, b, rfl⟩ := len2 hl
    have hv := fun k => val2 k 13 4 (by omega) (by simp) a b
    have hr := ref2 k 13 (by simp) (by simp) (by simp) (by omega) (by omega) a b
    constructor
    · rw [hv k, hr]; simp [← wrap_eq]
    · rw [show (20 : Nat) = 0 + 20 from rfl, hv 0]
      repeat' split
      all_goals simp
      all_goals (try split)
      all_goals (try simp)
  · have hl' : ¬ ((l.length : Int) = 2) := by omega
    constructor <;> simp [← wrap_eq, hl, hl']
theorem res_14 (k : Nat) (l : List Int) : vRe.f (k + 20) 14 l = r05Result.f (k + 20) 14 l ∧ (vRe.f 20 14 l).isSome = true := by
  by_cases hl : l.length = 2
  · obtain ⟨a, b, rfl⟩ := len2 hl
    constructor
    · simp
    · simp
      repeat' split
      all_goals simp
  · have hl' : ¬ ((l.length : Int) = 2) := by omega
    constructor <;> simp [hl, hl']
theorem app_14 (k : Nat) (l : List Int) : vAp.f (k + 20) 14 l = r05Apply.f (k + 20) 14 l ∧ (vAp.f 20 14 l).isSome = true := by
  by_cases hl : l.length = 2
  · obtain ⟨a, b, rfl⟩ := len2 hl
    have hv := fun k => val2 k 14 4 (by omega) (by simp) a b
    have hr := ref2 k 14 (by simp) (by simp) (by simp) (by omega) (by omega) a b
    constructor
    · rw [hv k, hr]; simp [← wrap_eq]
    · rw [show (20 : Nat) = 0 + 20 from rfl, hv 0]
      repeat' split
      all_goals simp
      all_goals (try split)
      all_goals (try simp)
  · have hl' : ¬ ((l.length : Int) = 2) := by omega
    constructor <;> simp [← wrap_eq, hl, hl']
theorem res_15 (k : Nat) (l : List Int) : vRe.f (k + 20) 15 l = r05Result.f (k + 20) 15 l ∧ (vRe.f 20 15 l).isSome = true := by
  by_cases hl : l.length = 2
  · obtain ⟨a, b, rfl⟩ := len2 hl
    constructor
    · simp
    · simp
      repeat' split
      all_goals simp
  · have hl' : ¬ ((l.length : Int) = 2) := by omega
    constructor <;> simp [hl, hl']
theorem app_15 (k : Nat) (l : List Int) : vAp.f (k + 20) 15 l = r05Apply.f (k + 20) 15 l ∧ (vAp.f 20 15 l).isSome = true := by
  by_cases hl : l.length = 2
  · obtain ⟨a, b, rfl⟩ := len2 hl
    have hv := fun k => val2 k 15 4 (by omega) (by simp) a b
    have hr := ref2 k 15 (by simp) (by simp) (by simp) (by omega) (by omega) a b
    constructor
    · rw [hv k, hr]; simp [← wrap_eq]
    · rw [show (20 : Nat) = 0 + 20 from rfl, hv 0]
      repeat' split
      all_goals simp
      all_goals (try split)
      all_goals (try simp)
  · have hl' : ¬ ((l.length : Int) = 2) := by omega
    constructor <;> simp [← wrap_eq, hl, hl']
theorem res_16 (k : Nat) (l : List Int) : vRe.f (k + 20) 16 l = r05Result.f (k + 20) 16 l ∧ (vRe.f 20 16 l).isSome = true := by
  by_cases hl : l.length = 2
  · obtain ⟨a, b, rfl⟩ := len2 hl
    constructor
    · simp
    · simp
      repeat' split
      all_goals simp
  · have hl' : ¬ ((l.length : Int) = 2) := by omega
    constructor <;> simp [hl, hl']
theorem app_16 (k : Nat) (l : List Int) : vAp.f (k + 20) 16 l = r05Apply.f (k + 20) 16 l ∧ (vAp.f 20 16 l).isSome = true := by
  by_cases hl : l.length = 2
  · obtain ⟨a, b, rfl⟩ := len2 hl
    have hv := fun k => val2 k 16 4 (by omega) (by simp) a b
    have hr := ref2 k 16 (by simp) (by simp) (by simp) (by omega) (by omega) a b
    constructor
    · rw [hv k, hr]; simp [← wrap_eq]
    · rw [show (20 : Nat) = 0 + 20 from rfl, hv 0]
      repeat' split
      all_goals simp
      all_goals (try split)
      all_goals (try simp)
  · have hl' : ¬ ((l.length : Int) = 2) := by omega
    constructor <;> simp [← wrap_eq, hl, hl']
end Go.Ref
end
