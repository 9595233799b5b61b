/- A part of the proofs of two laws of folding: words, a reference machine, contracts. -/
import Derived.Test.YtgbpdfkobelbcaaSxD
section
namespace Go.Proofs.Ytgbpdfkobelbcaa.PSimpFolds
open Go.RowKit Go.Proofs.YtgbpdfkobelbcaaW.PrintWords Go.Proofs.YtgbpdfkobelbcaaW.PrintLast Go.Proofs.YtgbpdfkobelbcaaW.PrintMore
attribute [local go_sem] max2_int min2_int max_two min_two max_three min_three max_four min_four
set_option linter.unusedVariables false
set_option linter.unusedSimpArgs false
def r05compute.f (a0 : Int) (a1 : Int) (a2 : Int) : Option (Int) := if a0 = 3 then (some (wrap64 (a1 * a2))) else (if a0 = 4 then ((r05one.f (decide ((wrap64 (a1 + a2)) > 0))).bind fun t361 => (some t361)) else (if a0 = 5 then ((r05one.f (a1 != a2)).bind fun t362 => (some t362)) else (if a0 = 6 then ((r01Add.f a1 a2).bind fun t363 => (some t363)) else (if a0 = 7 then ((r01Sub.f a1 a2).bind fun t364 => (some t364)) else (if a0 = 8 then ((r01Mul.f a1 a2).bind fun t365 => (some t365)) else (if a0 = 9 then ((r01Div.f a1 a2).bind fun t366 => (some t366)) else (if a0 = 10 then ((r01Mod.f a1 a2).bind fun t367 => (some t367)) else (if a0 = 11 then ((r05one.f (a1 == a2)).bind fun t368 => (some t368)) else (if a0 = 12 then ((r05one.f (a1 != a2)).bind fun t369 => (some t369)) else (if a0 = 13 then ((r05one.f (decide (a1 < a2))).bind fun t370 => (some t370)) else (if a0 = 14 then ((r05one.f (decide (a1 ≤ a2))).bind fun t371 => (some t371)) else (if a0 = 15 then ((r05one.f (decide (a1 > a2))).bind fun t372 => (some t372)) else ((r05one.f (decide (a1 ≥ a2))).bind fun t373 => (some t373))))))))))))))
set_option maxHeartbeats 8000000 in
set_option maxRecDepth 100000 in
theorem r05compute.calls (a0 : Int) (a1 : Int) (a2 : Int) (r : Int) (w : World) (h : r05compute.f a0 a1 a2 = some r) :
    Calls Try.prog 75 #[.int .i64 a0, .int .i64 a1, .int .i64 a2] w fun e w' => e = .returned (.int .i64 r) ∧ Drawn0 w w' := by
  have H : (if a0 = 3 then (some (wrap64 (a1 * a2))) else (if a0 = 4 then ((r05one.f (decide ((wrap64 (a1 + a2)) > 0))).bind fun t361 => (some t361)) else (if a0 = 5 then ((r05one.f (a1 != a2)).bind fun t362 => (some t362)) else (if a0 = 6 then ((r01Add.f a1 a2).bind fun t363 => (some t363)) else (if a0 = 7 then ((r01Sub.f a1 a2).bind fun t364 => (some t364)) else (if a0 = 8 then ((r01Mul.f a1 a2).bind fun t365 => (some t365)) else (if a0 = 9 then ((r01Div.f a1 a2).bind fun t366 => (some t366)) else (if a0 = 10 then ((r01Mod.f a1 a2).bind fun t367 => (some t367)) else (if a0 = 11 then ((r05one.f (a1 == a2)).bind fun t368 => (some t368)) else (if a0 = 12 then ((r05one.f (a1 != a2)).bind fun t369 => (some t369)) else (if a0 = 13 then ((r05one.f (decide (a1 < a2))).bind fun t370 => (some t370)) else (if a0 = 14 then ((r05one.f (decide (a1 ≤ a2))).bind fun t371 => (some t371)) else (if a0 = 15 then ((r05one.f (decide (a1 > a2))).bind fun t372 => (some t372)) else ((r05one.f (decide (a1 ≥ a2))).bind fun t373 => (some t373))))))))))))))) = some r := h
  clear h
  by_cases c4 : a0 = 3
  · rw [if_pos c4] at H
    have c4b0 : (a0 == 3) = true := beq_iff_eq.mpr c4
    have c4b1 : (a0 != 3) = false := bne_eq_false_iff_eq.mpr c4
    clear c4
    obtain rfl := Option.some.inj H
    go_enter Try.func75, Try.ntmps75
    go_wp2
    go_ret
    exact ⟨by first | rfl | (simp; done) | (simp [*]; done), by repeat (first | exact Drawn0.refl _ | apply Drawn0.step)⟩
  · rw [if_neg c4] at H
    have c4b0 : (a0 == 3) = false := beq_eq_false_iff_ne.mpr c4
    have c4b1 : (a0 != 3) = true := bne_iff_ne.mpr c4
    by_cases c5 : a0 = 4
    · rw [if_pos c5] at H
      have c5b0 : (a0 == 4) = true := beq_iff_eq.mpr c5
      have c5b1 : (a0 != 4) = false := bne_eq_false_iff_eq.mpr c5
      clear c5
      replace H := Option.bind_eq_some_iff.mp H
      obtain ⟨t361, A60, H⟩ := H
      replace H : (some t361) = some r := H
      have A6 := Asd.mk A60
      clear A60
      obtain rfl := Option.some.inj H
      go_enter Try.func75, Try.ntmps75
      go_wp2_with (first | ((with_reducible refine gate_callee (f := 87) rfl ?_); refine goesL_ (some 19) rfl rfl Try.func87 (by kernel_rfl) rfl #[.bool (decide ((wrap64 (a1 + a2)) > 0))] rfl (by (try simp only [List.map_toArray, List.map_cons, List.map_nil]); first | done | rfl | (simp only [List.length_drop, List.length_take]; rfl)) ?_; (with_reducible refine (r05one.calls (decide ((wrap64 (a1 + a2)) > 0)) t361 _ A6.out).mono ?_); rintro e w' ⟨rfl, ⟨nd, rfl⟩⟩; refine ⟨_, rfl, ?_⟩))
      go_ret
      exact ⟨by first | rfl | (simp; done) | (simp [*]; done), by repeat (first | exact Drawn0.refl _ | apply Drawn0.step)⟩
    · rw [if_neg c5] at H
      have c5b0 : (a0 == 4) = false := beq_eq_false_iff_ne.mpr c5
      have c5b1 : (a0 != 4) = true := bne_iff_ne.mpr c5
      by_cases c7 : a0 = 5
      · rw [if_pos c7] at H
        have c7b0 : (a0 == 5) = true := beq_iff_eq.mpr c7
        have c7b1 : (a0 != 5) = false := bne_eq_false_iff_eq.mpr c7
        clear c7
        replace H := Option.bind_eq_some_iff.mp H
        obtain ⟨t362, A80, H⟩ := H
        replace H : (some t362) = some r := H
        have A8 := Asd.mk A80
        clear A80
        obtain rfl := Option.some.inj H
        go_enter Try.func75, Try.ntmps75
        go_wp2_with (first | ((with_reducible refine gate_callee (f := 87) rfl ?_); refine goesL_ (some 25) rfl rfl Try.func87 (by kernel_rfl) rfl #[.bool (a1 != a2)] rfl (by (try simp only [List.map_toArray, List.map_cons, List.map_nil]); first | done | rfl | (simp only [List.length_drop, List.length_take]; rfl)) ?_; (with_reducible refine (r05one.calls (a1 != a2) t362 _ A8.out).mono ?_); rintro e w' ⟨rfl, ⟨nd, rfl⟩⟩; refine ⟨_, rfl, ?_⟩))
        go_ret
        exact ⟨by first | rfl | (simp; done) | (simp [*]; done), by repeat (first | exact Drawn0.refl _ | apply Drawn0.step)⟩
      · rw [if_neg c7] at H
        have c7b0 : (a0 == 5) = false := beq_eq_false_iff_ne.mpr c7
        have c7b1 : (a0 != 5) = true := bne_iff_ne.mpr c7
        by_cases c9 : a0 = 6
        · rw [if_pos c9] at H
          have c9b0 : (a0 == 6) = true := beq_iff_eq.mpr c9
          have c9b1 : (a0 != 6) = false := bne_eq_false_iff_eq.mpr c9
          clear c9
          replace H := Option.bind_eq_some_iff.mp H
          obtain ⟨t363, A100, H⟩ := H
          replace H : (some t363) = some r := H
          have A10 := Asd.mk A100
          clear A100
          obtain rfl := Option.some.inj H
          go_enter Try.func75, Try.ntmps75
          go_wp2_with (first | ((with_reducible refine gate_callee (f := 88) rfl ?_); refine goesL_ (some 30) rfl rfl Try.func88 (by kernel_rfl) rfl #[.int .i64 a1, .int .i64 a2] rfl (by (try simp only [List.map_toArray, List.map_cons, List.map_nil]); first | done | rfl | (simp only [List.length_drop, List.length_take]; rfl)) ?_; (with_reducible refine (r01Add.calls a1 a2 t363 _ A10.out).mono ?_); rintro e w' ⟨rfl, ⟨nd, rfl⟩⟩; refine ⟨_, rfl, ?_⟩))
          go_ret
          exact ⟨by first | rfl | (simp; done) | (simp [*]; done), by repeat (first | exact Drawn0.refl _ | apply Drawn0.step)⟩
        · rw [if_neg c9] at H
          have c9b0 : (a0 == 6) = false := beq_eq_false_iff_ne.mpr c9
          have c9b1 : (a0 != 6) = true := bne_iff_ne.mpr c9
          by_cases c11 : a0 = 7
          · rw [if_pos c11] at H
            have c11b0 : (a0 == 7) = true := beq_iff_eq.mpr c11
            have c11b1 : (a0 != 7) = false := bne_eq_false_iff_eq.mpr c11
            clear c11
            replace H := Option.bind_eq_some_iff.mp H
            obtain ⟨t364, A120, H⟩ := H
            replace H : (some t364) = some r := H
            have A12 := Asd.mk A120
            clear A120
            obtain rfl := Option.some.inj H
            go_enter Try.func75, Try.ntmps75
            go_wp2_with (first | ((with_reducible refine gate_callee (f := 89) rfl ?_); refine goesL_ (some 35) rfl rfl Try.func89 (by kernel_rfl) rfl #[.int .i64 a1, .int .i64 a2] rfl (by (try simp only [List.map_toArray, List.map_cons, List.map_nil]); first | done | rfl | (simp only [List.length_drop, List.length_take]; rfl)) ?_; (with_reducible refine (r01Sub.calls a1 a2 t364 _ A12.out).mono ?_); rintro e w' ⟨rfl, ⟨nd, rfl⟩⟩; refine ⟨_, rfl, ?_⟩))
            go_ret
            exact ⟨by first | rfl | (simp; done) | (simp [*]; done), by repeat (first | exact Drawn0.refl _ | apply Drawn0.step)⟩
          · rw [if_neg c11] at H
            have c11b0 : (a0 == 7) = false := beq_eq_false_iff_ne.mpr c11
            have c11b1 : (a0 != 7) = true := bne_iff_ne.mpr c11
            by_cases c13 : a0 = 8
            · rw [if_pos c13] at H
              have c13b0 : (a0 == 8) = true := beq_iff_eq.mpr c13
              have c13b1 : (a0 != 8) = false := bne_eq_false_iff_eq.mpr c13
              clear c13
              replace H := Option.bind_eq_some_iff.mp H
              obtain ⟨t365, A140, H⟩ := H
              replace H : (some t365) = some r := H
              have A14 := Asd.mk A140
              clear A140
              obtain rfl := Option.some.inj H
              go_enter Try.func75, Try.ntmps75
              go_wp2_with (first | ((with_reducible refine gate_callee (f := 90) rfl ?_); refine goesL_ (some 40) rfl rfl Try.func90 (by kernel_rfl) rfl #[.int .i64 a1, .int .i64 a2] rfl (by (try simp only [List.map_toArray, List.map_cons, List.map_nil]); first | done | rfl | (simp only [List.length_drop, List.length_take]; rfl)) ?_; (with_reducible refine (r01Mul.calls a1 a2 t365 _ A14.out).mono ?_); rintro e w' ⟨rfl, ⟨nd, rfl⟩⟩; refine ⟨_, rfl, ?_⟩))
              go_ret
              exact ⟨by first | rfl | (simp; done) | (simp [*]; done), by repeat (first | exact Drawn0.refl _ | apply Drawn0.step)⟩
            · rw [if_neg c13] at H
              have c13b0 : (a0 == 8) = false := beq_eq_false_iff_ne.mpr c13
              have c13b1 : (a0 != 8) = true := bne_iff_ne.mpr c13
              by_cases c15 : a0 = 9
              · rw [if_pos c15] at H
                have c15b0 : (a0 == 9) = true := beq_iff_eq.mpr c15
                have c15b1 : (a0 != 9) = false := bne_eq_false_iff_eq.mpr c15
                clear c15
                replace H := Option.bind_eq_some_iff.mp H
                obtain ⟨t366, A160, H⟩ := H
                replace H : (some t366) = some r := H
                have A16 := Asd.mk A160
                clear A160
                obtain rfl := Option.some.inj H
                go_enter Try.func75, Try.ntmps75
                go_wp2_with (first | ((with_reducible refine gate_callee (f := 91) rfl ?_); refine goesL_ (some 45) rfl rfl Try.func91 (by kernel_rfl) rfl #[.int .i64 a1, .int .i64 a2] rfl (by (try simp only [List.map_toArray, List.map_cons, List.map_nil]); first | done | rfl | (simp only [List.length_drop, List.length_take]; rfl)) ?_; (with_reducible refine (r01Div.calls a1 a2 t366 _ A16.out).mono ?_); rintro e w' ⟨rfl, ⟨nd, rfl⟩⟩; refine ⟨_, rfl, ?_⟩))
                go_ret
                exact ⟨by first | rfl | (simp; done) | (simp [*]; done), by repeat (first | exact Drawn0.refl _ | apply Drawn0.step)⟩
              · rw [if_neg c15] at H
                have c15b0 : (a0 == 9) = false := beq_eq_false_iff_ne.mpr c15
                have c15b1 : (a0 != 9) = true := bne_iff_ne.mpr c15
                by_cases c17 : a0 = 10
                · rw [if_pos c17] at H
                  have c17b0 : (a0 == 10) = true := beq_iff_eq.mpr c17
                  have c17b1 : (a0 != 10) = false := bne_eq_false_iff_eq.mpr c17
                  clear c17
                  replace H := Option.bind_eq_some_iff.mp H
                  obtain ⟨t367, A180, H⟩ := H
                  replace H : (some t367) = some r := H
                  have A18 := Asd.mk A180
                  clear A180
                  obtain rfl := Option.some.inj H
                  go_enter Try.func75, Try.ntmps75
                  go_wp2_with (first | ((with_reducible refine gate_callee (f := 92) rfl ?_); refine goesL_ (some 50) rfl rfl Try.func92 (by kernel_rfl) rfl #[.int .i64 a1, .int .i64 a2] rfl (by (try simp only [List.map_toArray, List.map_cons, List.map_nil]); first | done | rfl | (simp only [List.length_drop, List.length_take]; rfl)) ?_; (with_reducible refine (r01Mod.calls a1 a2 t367 _ A18.out).mono ?_); rintro e w' ⟨rfl, ⟨nd, rfl⟩⟩; refine ⟨_, rfl, ?_⟩))
                  go_ret
                  exact ⟨by first | rfl | (simp; done) | (simp [*]; done), by repeat (first | exact Drawn0.refl _ | apply Drawn0.step)⟩
                · rw [if_neg c17] at H
                  have c17b0 : (a0 == 10) = false := beq_eq_false_iff_ne.mpr c17
                  have c17b1 : (a0 != 10) = true := bne_iff_ne.mpr c17
                  by_cases c19 : a0 = 11
                  · rw [if_pos c19] at H
                    have c19b0 : (a0 == 11) = true := beq_iff_eq.mpr c19
                    have c19b1 : (a0 != 11) = false := bne_eq_false_iff_eq.mpr c19
                    clear c19
                    replace H := Option.bind_eq_some_iff.mp H
                    obtain ⟨t368, A200, H⟩ := H
                    replace H : (some t368) = some r := H
                    have A20 := Asd.mk A200
                    clear A200
                    obtain rfl := Option.some.inj H
                    go_enter Try.func75, Try.ntmps75
                    go_wp2_with (first | ((with_reducible refine gate_callee (f := 87) rfl ?_); refine goesL_ (some 56) rfl rfl Try.func87 (by kernel_rfl) rfl #[.bool (a1 == a2)] rfl (by (try simp only [List.map_toArray, List.map_cons, List.map_nil]); first | done | rfl | (simp only [List.length_drop, List.length_take]; rfl)) ?_; (with_reducible refine (r05one.calls (a1 == a2) t368 _ A20.out).mono ?_); rintro e w' ⟨rfl, ⟨nd, rfl⟩⟩; refine ⟨_, rfl, ?_⟩))
                    go_ret
                    exact ⟨by first | rfl | (simp; done) | (simp [*]; done), by repeat (first | exact Drawn0.refl _ | apply Drawn0.step)⟩
                  · rw [if_neg c19] at H
                    have c19b0 : (a0 == 11) = false := beq_eq_false_iff_ne.mpr c19
                    have c19b1 : (a0 != 11) = true := bne_iff_ne.mpr c19
                    by_cases c21 : a0 = 12
                    · rw [if_pos c21] at H
                      have c21b0 : (a0 == 12) = true := beq_iff_eq.mpr c21
                      have c21b1 : (a0 != 12) = false := bne_eq_false_iff_eq.mpr c21
                      clear c21
                      replace H := Option.bind_eq_some_iff.mp H
                      obtain ⟨t369, A220, H⟩ := H
                      replace H : (some t369) = some r := H
                      have A22 := Asd.mk A220
                      clear A220
                      obtain rfl := Option.some.inj H
                      go_enter Try.func75, Try.ntmps75
                      go_wp2_with (first | ((with_reducible refine gate_callee (f := 87) rfl ?_); refine goesL_ (some 62) rfl rfl Try.func87 (by kernel_rfl) rfl #[.bool (a1 != a2)] rfl (by (try simp only [List.map_toArray, List.map_cons, List.map_nil]); first | done | rfl | (simp only [List.length_drop, List.length_take]; rfl)) ?_; (with_reducible refine (r05one.calls (a1 != a2) t369 _ A22.out).mono ?_); rintro e w' ⟨rfl, ⟨nd, rfl⟩⟩; refine ⟨_, rfl, ?_⟩))
                      go_ret
                      exact ⟨by first | rfl | (simp; done) | (simp [*]; done), by repeat (first | exact Drawn0.refl _ | apply Drawn0.step)⟩
                    · rw [if_neg c21] at H
                      have c21b0 : (a0 == 12) = false := beq_eq_false_iff_ne.mpr c21
                      have c21b1 : (a0 != 12) = true := bne_iff_ne.mpr c21
                      by_cases c23 : a0 = 13
                      · rw [if_pos c23] at H
                        have c23b0 : (a0 == 13) = true := beq_iff_eq.mpr c23
                        have c23b1 : (a0 != 13) = false := bne_eq_false_iff_eq.mpr c23
                        clear c23
                        replace H := Option.bind_eq_some_iff.mp H
                        obtain ⟨t370, A240, H⟩ := H
                        replace H : (some t370) = some r := H
                        have A24 := Asd.mk A240
                        clear A240
                        obtain rfl := Option.some.inj H
                        go_enter Try.func75, Try.ntmps75
                        go_wp2_with (first | ((with_reducible refine gate_callee (f := 87) rfl ?_); refine goesL_ (some 68) rfl rfl Try.func87 (by kernel_rfl) rfl #[.bool (decide (a1 < a2))] rfl (by (try simp only [List.map_toArray, List.map_cons, List.map_nil]); first | done | rfl | (simp only [List.length_drop, List.length_take]; rfl)) ?_; (with_reducible refine (r05one.calls (decide (a1 < a2)) t370 _ A24.out).mono ?_); rintro e w' ⟨rfl, ⟨nd, rfl⟩⟩; refine ⟨_, rfl, ?_⟩))
                        go_ret
                        exact ⟨by first | rfl | (simp; done) | (simp [*]; done), by repeat (first | exact Drawn0.refl _ | apply Drawn0.step)⟩
                      · rw [if_neg c23] at H
                        have c23b0 : (a0 == 13) = false := beq_eq_false_iff_ne.mpr c23
                        have c23b1 : (a0 != 13) = true := bne_iff_ne.mpr c23
                        by_cases c25 : a0 = 14
                        · rw [if_pos c25] at H
                          have c25b0 : (a0 == 14) = true := beq_iff_eq.mpr c25
                          have c25b1 : (a0 != 14) = false := bne_eq_false_iff_eq.mpr c25
                          clear c25
                          replace H := Option.bind_eq_some_iff.mp H
                          obtain ⟨t371, A260, H⟩ := H
                          replace H : (some t371) = some r := H
                          have A26 := Asd.mk A260
                          clear A260
                          obtain rfl := Option.some.inj H
                          go_enter Try.func75, Try.ntmps75
                          go_wp2_with (first | ((with_reducible refine gate_callee (f := 87) rfl ?_); refine goesL_ (some 74) rfl rfl Try.func87 (by kernel_rfl) rfl #[.bool (decide (a1 ≤ a2))] rfl (by (try simp only [List.map_toArray, List.map_cons, List.map_nil]); first | done | rfl | (simp only [List.length_drop, List.length_take]; rfl)) ?_; (with_reducible refine (r05one.calls (decide (a1 ≤ a2)) t371 _ A26.out).mono ?_); rintro e w' ⟨rfl, ⟨nd, rfl⟩⟩; refine ⟨_, rfl, ?_⟩))
                          go_ret
                          exact ⟨by first | rfl | (simp; done) | (simp [*]; done), by repeat (first | exact Drawn0.refl _ | apply Drawn0.step)⟩
                        · rw [if_neg c25] at H
                          have c25b0 : (a0 == 14) = false := beq_eq_false_iff_ne.mpr c25
                          have c25b1 : (a0 != 14) = true := bne_iff_ne.mpr c25
                          by_cases c27 : a0 = 15
                          · rw [if_pos c27] at H
                            have c27b0 : (a0 == 15) = true := beq_iff_eq.mpr c27
                            have c27b1 : (a0 != 15) = false := bne_eq_false_iff_eq.mpr c27
                            clear c27
                            replace H := Option.bind_eq_some_iff.mp H
                            obtain ⟨t372, A280, H⟩ := H
                            replace H : (some t372) = some r := H
                            have A28 := Asd.mk A280
                            clear A280
                            obtain rfl := Option.some.inj H
                            go_enter Try.func75, Try.ntmps75
                            go_wp2_with (first | ((with_reducible refine gate_callee (f := 87) rfl ?_); refine goesL_ (some 80) rfl rfl Try.func87 (by kernel_rfl) rfl #[.bool (decide (a1 > a2))] rfl (by (try simp only [List.map_toArray, List.map_cons, List.map_nil]); first | done | rfl | (simp only [List.length_drop, List.length_take]; rfl)) ?_; (with_reducible refine (r05one.calls (decide (a1 > a2)) t372 _ A28.out).mono ?_); rintro e w' ⟨rfl, ⟨nd, rfl⟩⟩; refine ⟨_, rfl, ?_⟩))
                            go_ret
                            exact ⟨by first | rfl | (simp; done) | (simp [*]; done), by repeat (first | exact Drawn0.refl _ | apply Drawn0.step)⟩
                          · rw [if_neg c27] at H
                            have c27b0 : (a0 == 15) = false := beq_eq_false_iff_ne.mpr c27
                            have c27b1 : (a0 != 15) = true := bne_iff_ne.mpr c27
                            replace H := Option.bind_eq_some_iff.mp H
                            obtain ⟨t373, A290, H⟩ := H
                            replace H : (some t373) = some r := H
                            have A29 := Asd.mk A290
                            clear A290
                            obtain rfl := Option.some.inj H
                            go_enter Try.func75, Try.ntmps75
                            go_wp2_with (first | ((with_reducible refine gate_callee (f := 87) rfl ?_); refine goesL_ (some 84) rfl rfl Try.func87 (by kernel_rfl) rfl #[.bool (decide (a1 ≥ a2))] rfl (by (try simp only [List.map_toArray, List.map_cons, List.map_nil]); first | done | rfl | (simp only [List.length_drop, List.length_take]; rfl)) ?_; (with_reducible refine (r05one.calls (decide (a1 ≥ a2)) t373 _ A29.out).mono ?_); rintro e w' ⟨rfl, ⟨nd, rfl⟩⟩; refine ⟨_, rfl, ?_⟩))
                            go_ret
                            exact ⟨by first | rfl | (simp; done) | (simp [*]; done), by repeat (first | exact Drawn0.refl _ | apply Drawn0.step)⟩
mutual
def r05Apply.l0 : Nat → Int → List Int → Int → Option (Int × Int)
  | 0, _, _, _ => none
  | k + 1, x0, x1, x6 => if x6 < (x1.length : Int) then ((r05boolean.f x0).bind fun t376 => (if t376 = true then (if 0 ≤ x6 then (if (rd x1 x6) = 0 then (r05Apply.j1 k x0 x1 x6 false) else (r05Apply.j1 k x0 x1 x6 ((rd x1 x6) != 1))) else (none)) else (r05Apply.j1 k x0 x1 x6 false))) else (if x0 = 1 then (if 0 < (x1.length : Int) then (some (wrap64 (1 - (rd x1 0)), 0)) else (none)) else (if x0 = 2 then (if 0 < (x1.length : Int) then ((r01Neg.f (rd x1 0)).bind fun t385 => (some (t385, 0))) else (none)) else (if 0 < (x1.length : Int) then (if 1 < (x1.length : Int) then ((r05compute.f x0 (rd x1 0) (rd x1 1)).bind fun t388 => (some (t388, 0))) else (none)) else (none))))
def r05Apply.j1 : Nat → Int → List Int → Int → Bool → Option (Int × Int)
  | 0, _, _, _, _ => none
  | k + 1, x0, x1, x6, x36 => if x36 = true then (some (0, 14)) else ((r05boolean.f x0).bind fun t379 => (if t379 = true then (r05Apply.l0 k x0 x1 (wrap64 (x6 + 1))) else ((r05equality.f x0).bind fun t380 => (if t380 = true then (r05Apply.l0 k x0 x1 (wrap64 (x6 + 1))) else (if 0 ≤ x6 then (if x6 < (x1.length : Int) then (if (rd x1 x6) < (-32768) then (some (0, 14)) else (if (rd x1 x6) > 32767 then (some (0, 14)) else (r05Apply.l0 k x0 x1 (wrap64 (x6 + 1))))) else (none)) else (none))))))
end
def r05Apply.f (k : Nat) (a0 : Int) (l1 : List Int) : Option (Int × Int) := (r05operands.f k a0).bind fun t374 => (if t374 = 0 then (some (0, 2)) else ((r05operands.f k a0).bind fun t375 => (if (l1.length : Int) = t375 then (r05Apply.l0 k a0 l1 0) else (some (0, 9)))))
set_option maxHeartbeats 8000000 in
set_option maxRecDepth 100000 in
theorem r05Apply.calls (k : Nat) (a0 : Int) (A1 : Option Addr) (c1 : Nat) (l1 : List Int) (r1 : Int) (r2 : Int) (w : World) (hr1 : Kd.C (Kd.int .i64) w A1 l1.length l1) (hc1 : l1.length ≤ c1) (h : r05Apply.f k a0 l1 = some (r1, r2)) :
    Calls Try.prog 49 #[.int .i64 a0, .slice A1 l1.length c1] w fun e w' => e = .returned (.tuple #[.int .i64 r1, .int .i64 r2]) ∧ Drawn0 w w' := by
  have HR1 := Asd.mk hr1
  have HC1 := Asd.mk hc1
  clear hr1 hc1
  have H : ((r05operands.f k a0).bind fun t374 => (if t374 = 0 then (some (0, 2)) else ((r05operands.f k a0).bind fun t375 => (if (l1.length : Int) = t375 then (r05Apply.l0 k a0 l1 0) else (some (0, 9)))))) = some (r1, r2) := h
  clear h
  replace H := Option.bind_eq_some_iff.mp H
  obtain ⟨t374, A30, H⟩ := H
  replace H : (if t374 = 0 then (some (0, 2)) else ((r05operands.f k a0).bind fun t375 => (if (l1.length : Int) = t375 then (r05Apply.l0 k a0 l1 0) else (some (0, 9))))) = some (r1, r2) := H
  have A3 := Asd.mk A30
  clear A30
  by_cases c4 : t374 = 0
  · rw [if_pos c4] at H
    have c4b0 : (t374 == 0) = true := beq_iff_eq.mpr c4
    have c4b1 : (t374 != 0) = false := bne_eq_false_iff_eq.mpr c4
    clear c4
    simp only [Option.some.injEq, Prod.mk.injEq] at H
    obtain ⟨rfl, rfl⟩ := H
    go_enter Try.func49, Try.ntmps49
    go_wp2_with (first | (go_at_call 70; (with_reducible refine (r05operands.calls k a0 t374 _ A3.out).mono ?_); rintro e w' ⟨rfl, ⟨nd, rfl⟩⟩; (try first | exact ⟨rfl, _, World.drewN_drewN _ _ _⟩ | exact ⟨rfl, _, Eq.trans (World.drewN_drewN _ _ _) (congrArg (World.drewN _) (Nat.add_assoc _ _ _))⟩)))
    repeat (go_quiet (first | (go_at_call 70; (with_reducible refine (r05operands.calls k a0 t374 _ A3.out).mono ?_); rintro e w' ⟨rfl, ⟨nd, rfl⟩⟩; (try first | exact ⟨rfl, _, World.drewN_drewN _ _ _⟩ | exact ⟨rfl, _, Eq.trans (World.drewN_drewN _ _ _) (congrArg (World.drewN _) (Nat.add_assoc _ _ _))⟩))); try go_wp2_with (first | (go_at_call 70; (with_reducible refine (r05operands.calls k a0 t374 _ A3.out).mono ?_); rintro e w' ⟨rfl, ⟨nd, rfl⟩⟩; (try first | exact ⟨rfl, _, World.drewN_drewN _ _ _⟩ | exact ⟨rfl, _, Eq.trans (World.drewN_drewN _ _ _) (congrArg (World.drewN _) (Nat.add_assoc _ _ _))⟩))))
    go_ret2
    exact ⟨by first | rfl | (simp; done) | (simp [*]; done), by repeat (first | exact Drawn0.refl _ | apply Drawn0.step)⟩
  · rw [if_neg c4] at H
    have c4b0 : (t374 == 0) = false := beq_eq_false_iff_ne.mpr c4
    have c4b1 : (t374 != 0) = true := bne_iff_ne.mpr c4
    replace H := Option.bind_eq_some_iff.mp H
    obtain ⟨t375, A50, H⟩ := H
    replace H : (if (l1.length : Int) = t375 then (r05Apply.l0 k a0 l1 0) else (some (0, 9))) = some (r1, r2) := H
    have A5 := Asd.mk A50
    clear A50
    obtain rfl : t374 = t375 := Option.some.inj (A3.out.symm.trans A5.out)
    by_cases c6 : (l1.length : Int) = t374
    · rw [if_pos c6] at H
      have c6b0 : ((l1.length : Int) == t374) = true := beq_iff_eq.mpr c6
      have c6b1 : ((l1.length : Int) != t374) = false := bne_eq_false_iff_eq.mpr c6
      clear c6
      have H' := Asd.mk H
      clear H
      go_enter Try.func49, Try.ntmps49
      go_wp2_with (first | (go_at_call 70; (with_reducible refine (r05operands.calls k a0 t374 _ A3.out).mono ?_); rintro e w' ⟨rfl, ⟨nd, rfl⟩⟩; (try first | exact ⟨rfl, _, World.drewN_drewN _ _ _⟩ | exact ⟨rfl, _, Eq.trans (World.drewN_drewN _ _ _) (congrArg (World.drewN _) (Nat.add_assoc _ _ _))⟩)) | (go_at_call 70; (with_reducible refine (r05operands.calls k a0 t374 _ A5.out).mono ?_); rintro e w' ⟨rfl, ⟨nd, rfl⟩⟩; (try first | exact ⟨rfl, _, World.drewN_drewN _ _ _⟩ | exact ⟨rfl, _, Eq.trans (World.drewN_drewN _ _ _) (congrArg (World.drewN _) (Nat.add_assoc _ _ _))⟩)))
      repeat (go_quiet (first | (go_at_call 70; (with_reducible refine (r05operands.calls k a0 t374 _ A3.out).mono ?_); rintro e w' ⟨rfl, ⟨nd, rfl⟩⟩; (try first | exact ⟨rfl, _, World.drewN_drewN _ _ _⟩ | exact ⟨rfl, _, Eq.trans (World.drewN_drewN _ _ _) (congrArg (World.drewN _) (Nat.add_assoc _ _ _))⟩)) | (go_at_call 70; (with_reducible refine (r05operands.calls k a0 t374 _ A5.out).mono ?_); rintro e w' ⟨rfl, ⟨nd, rfl⟩⟩; (try first | exact ⟨rfl, _, World.drewN_drewN _ _ _⟩ | exact ⟨rfl, _, Eq.trans (World.drewN_drewN _ _ _) (congrArg (World.drewN _) (Nat.add_assoc _ _ _))⟩))); try go_wp2_with (first | (go_at_call 70; (with_reducible refine (r05operands.calls k a0 t374 _ A3.out).mono ?_); rintro e w' ⟨rfl, ⟨nd, rfl⟩⟩; (try first | exact ⟨rfl, _, World.drewN_drewN _ _ _⟩ | exact ⟨rfl, _, Eq.trans (World.drewN_drewN _ _ _) (congrArg (World.drewN _) (Nat.add_assoc _ _ _))⟩)) | (go_at_call 70; (with_reducible refine (r05operands.calls k a0 t374 _ A5.out).mono ?_); rintro e w' ⟨rfl, ⟨nd, rfl⟩⟩; (try first | exact ⟨rfl, _, World.drewN_drewN _ _ _⟩ | exact ⟨rfl, _, Eq.trans (World.drewN_drewN _ _ _) (congrArg (World.drewN _) (Nat.add_assoc _ _ _))⟩))))
      go_loopg [6] k (fun kq v6 w' => ∃ (x6_1 : Int), v6 = .int .i64 x6_1 ∧ Asd (r05Apply.l0 kq a0 l1 x6_1 = some (r1, r2)) ∧ Asd (kq ≤ k) ∧ Drawn0 w w')
      case atStart => exact ⟨(0), (by first | rfl | (simp; done) | (simp [*]; done)), H', ⟨Nat.le_refl _⟩, by repeat (first | exact Drawn0.refl _ | apply Drawn0.step)⟩
      case round =>
        clear H'
        try clear c1
        try clear p2
        try clear c4
        try clear c4b0
        try clear c4b1
        try clear c6
        try clear c6b0
        try clear c6b1
        obtain ⟨x6_1, rfl, HA, HK1, ⟨m1, rfl⟩⟩ := hrel
        cases gk with
        | zero => exact absurd HA.out (by simp [r05Apply.l0])
        | succ k1 =>
          have H := HA.out
          clear HA
          simp only [r05Apply.l0] at H
          by_cases c7 : x6_1 < (l1.length : Int)
          · rw [if_pos c7] at H
            have c7b0 : decide (x6_1 < (l1.length : Int)) = true := decide_eq_true c7
            clear c7
            have HC8 := Asd.mk H
            clear H
            go_upto_region 8 with (fail)
            repeat (go_quiet (fail); go_upto_region 8 with (fail))
            go_cut [36] (fun v36 wc => ∃ (kq : Nat) (x36_7 : Bool), v36 = .bool x36_7 ∧ Asd (r05Apply.j1 kq a0 l1 x6_1 x36_7 = some (r1, r2)) ∧ Asd (kq ≤ k1) ∧ Drawn0 w wc)
            case first =>
              have H := HC8.out
              clear HC8
              replace H := Option.bind_eq_some_iff.mp H
              obtain ⟨t376, A90, H⟩ := H
              replace H : (if t376 = true then (if 0 ≤ x6_1 then (if (rd l1 x6_1) = 0 then (r05Apply.j1 k1 a0 l1 x6_1 false) else (r05Apply.j1 k1 a0 l1 x6_1 ((rd l1 x6_1) != 1))) else (none)) else (r05Apply.j1 k1 a0 l1 x6_1 false)) = some (r1, r2) := H
              have A9 := Asd.mk A90
              clear A90
              by_cases c10 : t376 = true
              · subst c10
                have H1 : (if 0 ≤ x6_1 then (if (rd l1 x6_1) = 0 then (r05Apply.j1 k1 a0 l1 x6_1 false) else (r05Apply.j1 k1 a0 l1 x6_1 ((rd l1 x6_1) != 1))) else (none)) = some (r1, r2) := by rw [if_pos rfl] at H; exact H
                clear H
                have H := H1
                clear H1
                by_cases c11 : 0 ≤ x6_1
                · rw [if_pos c11] at H
                  have c11b0 : decide (0 ≤ x6_1) = true := decide_eq_true c11
                  clear c11
                  (first | rw [c11b0] | (simp only [i64_w, i32_w]; rw [c11b0]) | skip)
                  by_cases c12 : (rd l1 x6_1) = 0
                  · rw [if_pos c12] at H
                    have c12b0 : ((rd l1 x6_1) == 0) = true := beq_iff_eq.mpr c12
                    have c12b1 : ((rd l1 x6_1) != 0) = false := bne_eq_false_iff_eq.mpr c12
                    clear c12
                    have H' := Asd.mk H
                    clear H
                    go_wp2_with (first | (go_at_call 71; (with_reducible refine (r05boolean.calls a0 true _ A9.out).mono ?_); rintro e w' ⟨rfl, ⟨nd, rfl⟩⟩; (try first | exact ⟨rfl, _, World.drewN_drewN _ _ _⟩ | exact ⟨rfl, _, Eq.trans (World.drewN_drewN _ _ _) (congrArg (World.drewN _) (Nat.add_assoc _ _ _))⟩); have p377 : 0 ≤ (x6_1 : Int) := of_decide_eq_true (by first | (with_reducible assumption) | assumption); have q377 : x6_1 < (l1.length : Int) := of_decide_eq_true (by first | (with_reducible assumption) | assumption); obtain ⟨ad377, e377, hx377_0⟩ := Kd.at_int HR1.out x6_1 p377 q377; cases e377; replace p377 := eq_true p377; replace q377 := eq_true q377))
                    repeat (go_quiet (first | (go_at_call 71; (with_reducible refine (r05boolean.calls a0 true _ A9.out).mono ?_); rintro e w' ⟨rfl, ⟨nd, rfl⟩⟩; (try first | exact ⟨rfl, _, World.drewN_drewN _ _ _⟩ | exact ⟨rfl, _, Eq.trans (World.drewN_drewN _ _ _) (congrArg (World.drewN _) (Nat.add_assoc _ _ _))⟩); have p377 : 0 ≤ (x6_1 : Int) := of_decide_eq_true (by first | (with_reducible assumption) | assumption); have q377 : x6_1 < (l1.length : Int) := of_decide_eq_true (by first | (with_reducible assumption) | assumption); obtain ⟨ad377, e377, hx377_0⟩ := Kd.at_int HR1.out x6_1 p377 q377; cases e377; replace p377 := eq_true p377; replace q377 := eq_true q377)); try go_wp2_with (first | (go_at_call 71; (with_reducible refine (r05boolean.calls a0 true _ A9.out).mono ?_); rintro e w' ⟨rfl, ⟨nd, rfl⟩⟩; (try first | exact ⟨rfl, _, World.drewN_drewN _ _ _⟩ | exact ⟨rfl, _, Eq.trans (World.drewN_drewN _ _ _) (congrArg (World.drewN _) (Nat.add_assoc _ _ _))⟩); have p377 : 0 ≤ (x6_1 : Int) := of_decide_eq_true (by first | (with_reducible assumption) | assumption); have q377 : x6_1 < (l1.length : Int) := of_decide_eq_true (by first | (with_reducible assumption) | assumption); obtain ⟨ad377, e377, hx377_0⟩ := Kd.at_int HR1.out x6_1 p377 q377; cases e377; replace p377 := eq_true p377; replace q377 := eq_true q377)))
                    go_meet
                    case rel => exact ⟨_, (false), (by first | rfl | (simp; done) | (simp [*]; done)), H', ⟨by have := HK1.out; first | omega | exact Nat.le_refl _⟩, by repeat (first | exact Drawn0.refl _ | apply Drawn0.step)⟩
                  · rw [if_neg c12] at H
                    have c12b0 : ((rd l1 x6_1) == 0) = false := beq_eq_false_iff_ne.mpr c12
                    have c12b1 : ((rd l1 x6_1) != 0) = true := bne_iff_ne.mpr c12
                    have H' := Asd.mk H
                    clear H
                    go_wp2_with (first | (go_at_call 71; (with_reducible refine (r05boolean.calls a0 true _ A9.out).mono ?_); rintro e w' ⟨rfl, ⟨nd, rfl⟩⟩; (try first | exact ⟨rfl, _, World.drewN_drewN _ _ _⟩ | exact ⟨rfl, _, Eq.trans (World.drewN_drewN _ _ _) (congrArg (World.drewN _) (Nat.add_assoc _ _ _))⟩); have p377 : 0 ≤ (x6_1 : Int) := of_decide_eq_true (by first | (with_reducible assumption) | assumption); have q377 : x6_1 < (l1.length : Int) := of_decide_eq_true (by first | (with_reducible assumption) | assumption); obtain ⟨ad377, e377, hx377_0⟩ := Kd.at_int HR1.out x6_1 p377 q377; cases e377; replace p377 := eq_true p377; replace q377 := eq_true q377; have p378 : 0 ≤ (x6_1 : Int) := of_decide_eq_true (by first | (with_reducible assumption) | assumption); have q378 : x6_1 < (l1.length : Int) := of_decide_eq_true (by first | (with_reducible assumption) | assumption); obtain ⟨ad378, e378, hx378_0⟩ := Kd.at_int HR1.out x6_1 p378 q378; obtain rfl : ad377 = ad378 := (by injection e378); replace p378 := eq_true p378; replace q378 := eq_true q378))
                    repeat (go_quiet (first | (go_at_call 71; (with_reducible refine (r05boolean.calls a0 true _ A9.out).mono ?_); rintro e w' ⟨rfl, ⟨nd, rfl⟩⟩; (try first | exact ⟨rfl, _, World.drewN_drewN _ _ _⟩ | exact ⟨rfl, _, Eq.trans (World.drewN_drewN _ _ _) (congrArg (World.drewN _) (Nat.add_assoc _ _ _))⟩); have p377 : 0 ≤ (x6_1 : Int) := of_decide_eq_true (by first | (with_reducible assumption) | assumption); have q377 : x6_1 < (l1.length : Int) := of_decide_eq_true (by first | (with_reducible assumption) | assumption); obtain ⟨ad377, e377, hx377_0⟩ := Kd.at_int HR1.out x6_1 p377 q377; cases e377; replace p377 := eq_true p377; replace q377 := eq_true q377; have p378 : 0 ≤ (x6_1 : Int) := of_decide_eq_true (by first | (with_reducible assumption) | assumption); have q378 : x6_1 < (l1.length : Int) := of_decide_eq_true (by first | (with_reducible assumption) | assumption); obtain ⟨ad378, e378, hx378_0⟩ := Kd.at_int HR1.out x6_1 p378 q378; obtain rfl : ad377 = ad378 := (by injection e378); replace p378 := eq_true p378; replace q378 := eq_true q378)); try go_wp2_with (first | (go_at_call 71; (with_reducible refine (r05boolean.calls a0 true _ A9.out).mono ?_); rintro e w' ⟨rfl, ⟨nd, rfl⟩⟩; (try first | exact ⟨rfl, _, World.drewN_drewN _ _ _⟩ | exact ⟨rfl, _, Eq.trans (World.drewN_drewN _ _ _) (congrArg (World.drewN _) (Nat.add_assoc _ _ _))⟩); have p377 : 0 ≤ (x6_1 : Int) := of_decide_eq_true (by first | (with_reducible assumption) | assumption); have q377 : x6_1 < (l1.length : Int) := of_decide_eq_true (by first | (with_reducible assumption) | assumption); obtain ⟨ad377, e377, hx377_0⟩ := Kd.at_int HR1.out x6_1 p377 q377; cases e377; replace p377 := eq_true p377; replace q377 := eq_true q377; have p378 : 0 ≤ (x6_1 : Int) := of_decide_eq_true (by first | (with_reducible assumption) | assumption); have q378 : x6_1 < (l1.length : Int) := of_decide_eq_true (by first | (with_reducible assumption) | assumption); obtain ⟨ad378, e378, hx378_0⟩ := Kd.at_int HR1.out x6_1 p378 q378; obtain rfl : ad377 = ad378 := (by injection e378); replace p378 := eq_true p378; replace q378 := eq_true q378)))
                    go_meet
                    case rel => exact ⟨_, (((rd l1 x6_1) != 1)), (by first | rfl | (simp; done) | (simp [*]; done)), H', ⟨by have := HK1.out; first | omega | exact Nat.le_refl _⟩, by repeat (first | exact Drawn0.refl _ | apply Drawn0.step)⟩
                · rw [if_neg c11] at H
                  exact absurd H (by simp)
              · replace c10 := Bool.eq_false_iff.mpr c10
                subst c10
                have H1 : (r05Apply.j1 k1 a0 l1 x6_1 false) = some (r1, r2) := by rw [if_neg (show ¬ (false = true) by decide)] at H; exact H
                clear H
                have H := H1
                clear H1
                have H' := Asd.mk H
                clear H
                go_wp2_with (first | (go_at_call 71; (with_reducible refine (r05boolean.calls a0 false _ A9.out).mono ?_); rintro e w' ⟨rfl, ⟨nd, rfl⟩⟩; (try first | exact ⟨rfl, _, World.drewN_drewN _ _ _⟩ | exact ⟨rfl, _, Eq.trans (World.drewN_drewN _ _ _) (congrArg (World.drewN _) (Nat.add_assoc _ _ _))⟩)))
                repeat (go_quiet (first | (go_at_call 71; (with_reducible refine (r05boolean.calls a0 false _ A9.out).mono ?_); rintro e w' ⟨rfl, ⟨nd, rfl⟩⟩; (try first | exact ⟨rfl, _, World.drewN_drewN _ _ _⟩ | exact ⟨rfl, _, Eq.trans (World.drewN_drewN _ _ _) (congrArg (World.drewN _) (Nat.add_assoc _ _ _))⟩))); try go_wp2_with (first | (go_at_call 71; (with_reducible refine (r05boolean.calls a0 false _ A9.out).mono ?_); rintro e w' ⟨rfl, ⟨nd, rfl⟩⟩; (try first | exact ⟨rfl, _, World.drewN_drewN _ _ _⟩ | exact ⟨rfl, _, Eq.trans (World.drewN_drewN _ _ _) (congrArg (World.drewN _) (Nat.add_assoc _ _ _))⟩))))
                go_meet
                case rel => exact ⟨_, (false), (by first | rfl | (simp; done) | (simp [*]; done)), H', ⟨by have := HK1.out; first | omega | exact Nat.le_refl _⟩, by repeat (first | exact Drawn0.refl _ | apply Drawn0.step)⟩
            case rest =>
              clear HC8
              try clear c1
              try clear p2
              try clear p3
              try clear q3
              try clear hx3
              try clear c4
              try clear c4b0
              try clear c4b1
              try clear c6
              try clear c6b0
              try clear c6b1
              try clear c7
              try clear c7b0
              try clear c10
              try clear c11
              try clear c11b0
              try clear c12
              try clear c12b0
              try clear c12b1
              try clear hx377_0
              try clear hx378_0
              try clear p2
              try clear p377
              try clear p378
              try clear q377
              try clear q378
              obtain ⟨kq, x36_7, rfl, HA, HJ7, ⟨mc7, rfl⟩⟩ := hcut
              cases kq with
              | zero => exact absurd HA.out (by simp [r05Apply.j1])
              | succ kj7 =>
                have H := HA.out
                clear HA
                simp only [r05Apply.j1] at H
                by_cases c13 : x36_7 = true
                · subst c13
                  have H1 : (some (0, 14)) = some (r1, r2) := by rw [if_pos rfl] at H; exact H
                  clear H
                  have H := H1
                  clear H1
                  simp only [Option.some.injEq, Prod.mk.injEq] at H
                  obtain ⟨rfl, rfl⟩ := H
                  go_wp2
                  repeat (go_quiet (fail); try go_wp2)
                  go_ret2
                  exact ⟨by first | rfl | (simp; done) | (simp [*]; done), by repeat (first | exact Drawn0.refl _ | apply Drawn0.step)⟩
                · replace c13 := Bool.eq_false_iff.mpr c13
                  subst c13
                  have H1 : ((r05boolean.f a0).bind fun t379 => (if t379 = true then (r05Apply.l0 kj7 a0 l1 (wrap64 (x6_1 + 1))) else ((r05equality.f a0).bind fun t380 => (if t380 = true then (r05Apply.l0 kj7 a0 l1 (wrap64 (x6_1 + 1))) else (if 0 ≤ x6_1 then (if x6_1 < (l1.length : Int) then (if (rd l1 x6_1) < (-32768) then (some (0, 14)) else (if (rd l1 x6_1) > 32767 then (some (0, 14)) else (r05Apply.l0 kj7 a0 l1 (wrap64 (x6_1 + 1))))) else (none)) else (none)))))) = some (r1, r2) := by rw [if_neg (show ¬ (false = true) by decide)] at H; exact H
                  clear H
                  have H := H1
                  clear H1
                  replace H := Option.bind_eq_some_iff.mp H
                  obtain ⟨t379, A140, H⟩ := H
                  replace H : (if t379 = true then (r05Apply.l0 kj7 a0 l1 (wrap64 (x6_1 + 1))) else ((r05equality.f a0).bind fun t380 => (if t380 = true then (r05Apply.l0 kj7 a0 l1 (wrap64 (x6_1 + 1))) else (if 0 ≤ x6_1 then (if x6_1 < (l1.length : Int) then (if (rd l1 x6_1) < (-32768) then (some (0, 14)) else (if (rd l1 x6_1) > 32767 then (some (0, 14)) else (r05Apply.l0 kj7 a0 l1 (wrap64 (x6_1 + 1))))) else (none)) else (none))))) = some (r1, r2) := H
                  have A14 := Asd.mk A140
                  clear A140
                  by_cases c15 : t379 = true
                  · subst c15
                    have H1 : (r05Apply.l0 kj7 a0 l1 (wrap64 (x6_1 + 1))) = some (r1, r2) := by rw [if_pos rfl] at H; exact H
                    clear H
                    have H := H1
                    clear H1
                    have H' := Asd.mk H
                    clear H
                    go_wp2_with (first | (go_at_call 71; (with_reducible refine (r05boolean.calls a0 true _ A14.out).mono ?_); rintro e w' ⟨rfl, ⟨nd, rfl⟩⟩; (try first | exact ⟨rfl, _, World.drewN_drewN _ _ _⟩ | exact ⟨rfl, _, Eq.trans (World.drewN_drewN _ _ _) (congrArg (World.drewN _) (Nat.add_assoc _ _ _))⟩)))
                    repeat (go_quiet (first | (go_at_call 71; (with_reducible refine (r05boolean.calls a0 true _ A14.out).mono ?_); rintro e w' ⟨rfl, ⟨nd, rfl⟩⟩; (try first | exact ⟨rfl, _, World.drewN_drewN _ _ _⟩ | exact ⟨rfl, _, Eq.trans (World.drewN_drewN _ _ _) (congrArg (World.drewN _) (Nat.add_assoc _ _ _))⟩))); try go_wp2_with (first | (go_at_call 71; (with_reducible refine (r05boolean.calls a0 true _ A14.out).mono ?_); rintro e w' ⟨rfl, ⟨nd, rfl⟩⟩; (try first | exact ⟨rfl, _, World.drewN_drewN _ _ _⟩ | exact ⟨rfl, _, Eq.trans (World.drewN_drewN _ _ _) (congrArg (World.drewN _) (Nat.add_assoc _ _ _))⟩))))
                    go_roundg kj7
                    case measure => have := HK1.out; have := HJ7.out; omega
                    case rel => exact ⟨(wrap64 (x6_1 + 1)), (by first | rfl | (simp; done) | (simp [*]; done)), H', ⟨by have := HK1.out; have := HJ7.out; omega⟩, by repeat (first | exact Drawn0.refl _ | apply Drawn0.step)⟩
                  · replace c15 := Bool.eq_false_iff.mpr c15
                    subst c15
                    have H1 : ((r05equality.f a0).bind fun t380 => (if t380 = true then (r05Apply.l0 kj7 a0 l1 (wrap64 (x6_1 + 1))) else (if 0 ≤ x6_1 then (if x6_1 < (l1.length : Int) then (if (rd l1 x6_1) < (-32768) then (some (0, 14)) else (if (rd l1 x6_1) > 32767 then (some (0, 14)) else (r05Apply.l0 kj7 a0 l1 (wrap64 (x6_1 + 1))))) else (none)) else (none)))) = some (r1, r2) := by rw [if_neg (show ¬ (false = true) by decide)] at H; exact H
                    clear H
                    have H := H1
                    clear H1
                    replace H := Option.bind_eq_some_iff.mp H
                    obtain ⟨t380, A160, H⟩ := H
                    replace H : (if t380 = true then (r05Apply.l0 kj7 a0 l1 (wrap64 (x6_1 + 1))) else (if 0 ≤ x6_1 then (if x6_1 < (l1.length : Int) then (if (rd l1 x6_1) < (-32768) then (some (0, 14)) else (if (rd l1 x6_1) > 32767 then (some (0, 14)) else (r05Apply.l0 kj7 a0 l1 (wrap64 (x6_1 + 1))))) else (none)) else (none))) = some (r1, r2) := H
                    have A16 := Asd.mk A160
                    clear A160
                    by_cases c17 : t380 = true
                    · subst c17
                      have H1 : (r05Apply.l0 kj7 a0 l1 (wrap64 (x6_1 + 1))) = some (r1, r2) := by rw [if_pos rfl] at H; exact H
                      clear H
                      have H := H1
                      clear H1
                      have H' := Asd.mk H
                      clear H
                      go_wp2_with (first | (go_at_call 71; (with_reducible refine (r05boolean.calls a0 false _ A14.out).mono ?_); rintro e w' ⟨rfl, ⟨nd, rfl⟩⟩; (try first | exact ⟨rfl, _, World.drewN_drewN _ _ _⟩ | exact ⟨rfl, _, Eq.trans (World.drewN_drewN _ _ _) (congrArg (World.drewN _) (Nat.add_assoc _ _ _))⟩)) | (go_at_call 72; (with_reducible refine (r05equality.calls a0 true _ A16.out).mono ?_); rintro e w' ⟨rfl, ⟨nd, rfl⟩⟩; (try first | exact ⟨rfl, _, World.drewN_drewN _ _ _⟩ | exact ⟨rfl, _, Eq.trans (World.drewN_drewN _ _ _) (congrArg (World.drewN _) (Nat.add_assoc _ _ _))⟩)))
                      repeat (go_quiet (first | (go_at_call 71; (with_reducible refine (r05boolean.calls a0 false _ A14.out).mono ?_); rintro e w' ⟨rfl, ⟨nd, rfl⟩⟩; (try first | exact ⟨rfl, _, World.drewN_drewN _ _ _⟩ | exact ⟨rfl, _, Eq.trans (World.drewN_drewN _ _ _) (congrArg (World.drewN _) (Nat.add_assoc _ _ _))⟩)) | (go_at_call 72; (with_reducible refine (r05equality.calls a0 true _ A16.out).mono ?_); rintro e w' ⟨rfl, ⟨nd, rfl⟩⟩; (try first | exact ⟨rfl, _, World.drewN_drewN _ _ _⟩ | exact ⟨rfl, _, Eq.trans (World.drewN_drewN _ _ _) (congrArg (World.drewN _) (Nat.add_assoc _ _ _))⟩))); try go_wp2_with (first | (go_at_call 71; (with_reducible refine (r05boolean.calls a0 false _ A14.out).mono ?_); rintro e w' ⟨rfl, ⟨nd, rfl⟩⟩; (try first | exact ⟨rfl, _, World.drewN_drewN _ _ _⟩ | exact ⟨rfl, _, Eq.trans (World.drewN_drewN _ _ _) (congrArg (World.drewN _) (Nat.add_assoc _ _ _))⟩)) | (go_at_call 72; (with_reducible refine (r05equality.calls a0 true _ A16.out).mono ?_); rintro e w' ⟨rfl, ⟨nd, rfl⟩⟩; (try first | exact ⟨rfl, _, World.drewN_drewN _ _ _⟩ | exact ⟨rfl, _, Eq.trans (World.drewN_drewN _ _ _) (congrArg (World.drewN _) (Nat.add_assoc _ _ _))⟩))))
                      go_roundg kj7
                      case measure => have := HK1.out; have := HJ7.out; omega
                      case rel => exact ⟨(wrap64 (x6_1 + 1)), (by first | rfl | (simp; done) | (simp [*]; done)), H', ⟨by have := HK1.out; have := HJ7.out; omega⟩, by repeat (first | exact Drawn0.refl _ | apply Drawn0.step)⟩
                    · replace c17 := Bool.eq_false_iff.mpr c17
                      subst c17
                      have H1 : (if 0 ≤ x6_1 then (if x6_1 < (l1.length : Int) then (if (rd l1 x6_1) < (-32768) then (some (0, 14)) else (if (rd l1 x6_1) > 32767 then (some (0, 14)) else (r05Apply.l0 kj7 a0 l1 (wrap64 (x6_1 + 1))))) else (none)) else (none)) = some (r1, r2) := by rw [if_neg (show ¬ (false = true) by decide)] at H; exact H
                      clear H
                      have H := H1
                      clear H1
                      by_cases c18 : 0 ≤ x6_1
                      · rw [if_pos c18] at H
                        have c18b0 : decide (0 ≤ x6_1) = true := decide_eq_true c18
                        clear c18
                        by_cases c19 : x6_1 < (l1.length : Int)
                        · rw [if_pos c19] at H
                          have c19b0 : decide (x6_1 < (l1.length : Int)) = true := decide_eq_true c19
                          clear c19
                          by_cases c20 : (rd l1 x6_1) < (-32768)
                          · rw [if_pos c20] at H
                            have c20b0 : decide ((rd l1 x6_1) < (-32768)) = true := decide_eq_true c20
                            clear c20
                            simp only [Option.some.injEq, Prod.mk.injEq] at H
                            obtain ⟨rfl, rfl⟩ := H
                            go_wp2_with (first | (go_at_call 71; (with_reducible refine (r05boolean.calls a0 false _ A14.out).mono ?_); rintro e w' ⟨rfl, ⟨nd, rfl⟩⟩; (try first | exact ⟨rfl, _, World.drewN_drewN _ _ _⟩ | exact ⟨rfl, _, Eq.trans (World.drewN_drewN _ _ _) (congrArg (World.drewN _) (Nat.add_assoc _ _ _))⟩)) | (go_at_call 72; (with_reducible refine (r05equality.calls a0 false _ A16.out).mono ?_); rintro e w' ⟨rfl, ⟨nd, rfl⟩⟩; (try first | exact ⟨rfl, _, World.drewN_drewN _ _ _⟩ | exact ⟨rfl, _, Eq.trans (World.drewN_drewN _ _ _) (congrArg (World.drewN _) (Nat.add_assoc _ _ _))⟩); have p381 : 0 ≤ (x6_1 : Int) := of_decide_eq_true (by first | (with_reducible assumption) | assumption); have q381 : x6_1 < (l1.length : Int) := of_decide_eq_true (by first | (with_reducible assumption) | assumption); obtain ⟨ad381, e381, hx381_0⟩ := Kd.at_int HR1.out x6_1 p381 q381; cases e381; replace p381 := eq_true p381; replace q381 := eq_true q381))
                            repeat (go_quiet (first | (go_at_call 71; (with_reducible refine (r05boolean.calls a0 false _ A14.out).mono ?_); rintro e w' ⟨rfl, ⟨nd, rfl⟩⟩; (try first | exact ⟨rfl, _, World.drewN_drewN _ _ _⟩ | exact ⟨rfl, _, Eq.trans (World.drewN_drewN _ _ _) (congrArg (World.drewN _) (Nat.add_assoc _ _ _))⟩)) | (go_at_call 72; (with_reducible refine (r05equality.calls a0 false _ A16.out).mono ?_); rintro e w' ⟨rfl, ⟨nd, rfl⟩⟩; (try first | exact ⟨rfl, _, World.drewN_drewN _ _ _⟩ | exact ⟨rfl, _, Eq.trans (World.drewN_drewN _ _ _) (congrArg (World.drewN _) (Nat.add_assoc _ _ _))⟩); have p381 : 0 ≤ (x6_1 : Int) := of_decide_eq_true (by first | (with_reducible assumption) | assumption); have q381 : x6_1 < (l1.length : Int) := of_decide_eq_true (by first | (with_reducible assumption) | assumption); obtain ⟨ad381, e381, hx381_0⟩ := Kd.at_int HR1.out x6_1 p381 q381; cases e381; replace p381 := eq_true p381; replace q381 := eq_true q381)); try go_wp2_with (first | (go_at_call 71; (with_reducible refine (r05boolean.calls a0 false _ A14.out).mono ?_); rintro e w' ⟨rfl, ⟨nd, rfl⟩⟩; (try first | exact ⟨rfl, _, World.drewN_drewN _ _ _⟩ | exact ⟨rfl, _, Eq.trans (World.drewN_drewN _ _ _) (congrArg (World.drewN _) (Nat.add_assoc _ _ _))⟩)) | (go_at_call 72; (with_reducible refine (r05equality.calls a0 false _ A16.out).mono ?_); rintro e w' ⟨rfl, ⟨nd, rfl⟩⟩; (try first | exact ⟨rfl, _, World.drewN_drewN _ _ _⟩ | exact ⟨rfl, _, Eq.trans (World.drewN_drewN _ _ _) (congrArg (World.drewN _) (Nat.add_assoc _ _ _))⟩); have p381 : 0 ≤ (x6_1 : Int) := of_decide_eq_true (by first | (with_reducible assumption) | assumption); have q381 : x6_1 < (l1.length : Int) := of_decide_eq_true (by first | (with_reducible assumption) | assumption); obtain ⟨ad381, e381, hx381_0⟩ := Kd.at_int HR1.out x6_1 p381 q381; cases e381; replace p381 := eq_true p381; replace q381 := eq_true q381)))
                            go_ret2
                            exact ⟨by first | rfl | (simp; done) | (simp [*]; done), by repeat (first | exact Drawn0.refl _ | apply Drawn0.step)⟩
                          · rw [if_neg c20] at H
                            have c20b0 : decide ((rd l1 x6_1) < (-32768)) = false := decide_eq_false c20
                            clear c20
                            by_cases c21 : (rd l1 x6_1) > 32767
                            · rw [if_pos c21] at H
                              have c21b0 : decide (32767 < (rd l1 x6_1)) = true := decide_eq_true c21
                              clear c21
                              simp only [Option.some.injEq, Prod.mk.injEq] at H
                              obtain ⟨rfl, rfl⟩ := H
                              go_wp2_with (first | (go_at_call 71; (with_reducible refine (r05boolean.calls a0 false _ A14.out).mono ?_); rintro e w' ⟨rfl, ⟨nd, rfl⟩⟩; (try first | exact ⟨rfl, _, World.drewN_drewN _ _ _⟩ | exact ⟨rfl, _, Eq.trans (World.drewN_drewN _ _ _) (congrArg (World.drewN _) (Nat.add_assoc _ _ _))⟩)) | (go_at_call 72; (with_reducible refine (r05equality.calls a0 false _ A16.out).mono ?_); rintro e w' ⟨rfl, ⟨nd, rfl⟩⟩; (try first | exact ⟨rfl, _, World.drewN_drewN _ _ _⟩ | exact ⟨rfl, _, Eq.trans (World.drewN_drewN _ _ _) (congrArg (World.drewN _) (Nat.add_assoc _ _ _))⟩); have p381 : 0 ≤ (x6_1 : Int) := of_decide_eq_true (by first | (with_reducible assumption) | assumption); have q381 : x6_1 < (l1.length : Int) := of_decide_eq_true (by first | (with_reducible assumption) | assumption); obtain ⟨ad381, e381, hx381_0⟩ := Kd.at_int HR1.out x6_1 p381 q381; cases e381; replace p381 := eq_true p381; replace q381 := eq_true q381; have p382 : 0 ≤ (x6_1 : Int) := of_decide_eq_true (by first | (with_reducible assumption) | assumption); have q382 : x6_1 < (l1.length : Int) := of_decide_eq_true (by first | (with_reducible assumption) | assumption); obtain ⟨ad382, e382, hx382_0⟩ := Kd.at_int HR1.out x6_1 p382 q382; obtain rfl : ad381 = ad382 := (by injection e382); replace p382 := eq_true p382; replace q382 := eq_true q382))
                              repeat (go_quiet (first | (go_at_call 71; (with_reducible refine (r05boolean.calls a0 false _ A14.out).mono ?_); rintro e w' ⟨rfl, ⟨nd, rfl⟩⟩; (try first | exact ⟨rfl, _, World.drewN_drewN _ _ _⟩ | exact ⟨rfl, _, Eq.trans (World.drewN_drewN _ _ _) (congrArg (World.drewN _) (Nat.add_assoc _ _ _))⟩)) | (go_at_call 72; (with_reducible refine (r05equality.calls a0 false _ A16.out).mono ?_); rintro e w' ⟨rfl, ⟨nd, rfl⟩⟩; (try first | exact ⟨rfl, _, World.drewN_drewN _ _ _⟩ | exact ⟨rfl, _, Eq.trans (World.drewN_drewN _ _ _) (congrArg (World.drewN _) (Nat.add_assoc _ _ _))⟩); have p381 : 0 ≤ (x6_1 : Int) := of_decide_eq_true (by first | (with_reducible assumption) | assumption); have q381 : x6_1 < (l1.length : Int) := of_decide_eq_true (by first | (with_reducible assumption) | assumption); obtain ⟨ad381, e381, hx381_0⟩ := Kd.at_int HR1.out x6_1 p381 q381; cases e381; replace p381 := eq_true p381; replace q381 := eq_true q381; have p382 : 0 ≤ (x6_1 : Int) := of_decide_eq_true (by first | (with_reducible assumption) | assumption); have q382 : x6_1 < (l1.length : Int) := of_decide_eq_true (by first | (with_reducible assumption) | assumption); obtain ⟨ad382, e382, hx382_0⟩ := Kd.at_int HR1.out x6_1 p382 q382; obtain rfl : ad381 = ad382 := (by injection e382); replace p382 := eq_true p382; replace q382 := eq_true q382)); try go_wp2_with (first | (go_at_call 71; (with_reducible refine (r05boolean.calls a0 false _ A14.out).mono ?_); rintro e w' ⟨rfl, ⟨nd, rfl⟩⟩; (try first | exact ⟨rfl, _, World.drewN_drewN _ _ _⟩ | exact ⟨rfl, _, Eq.trans (World.drewN_drewN _ _ _) (congrArg (World.drewN _) (Nat.add_assoc _ _ _))⟩)) | (go_at_call 72; (with_reducible refine (r05equality.calls a0 false _ A16.out).mono ?_); rintro e w' ⟨rfl, ⟨nd, rfl⟩⟩; (try first | exact ⟨rfl, _, World.drewN_drewN _ _ _⟩ | exact ⟨rfl, _, Eq.trans (World.drewN_drewN _ _ _) (congrArg (World.drewN _) (Nat.add_assoc _ _ _))⟩); have p381 : 0 ≤ (x6_1 : Int) := of_decide_eq_true (by first | (with_reducible assumption) | assumption); have q381 : x6_1 < (l1.length : Int) := of_decide_eq_true (by first | (with_reducible assumption) | assumption); obtain ⟨ad381, e381, hx381_0⟩ := Kd.at_int HR1.out x6_1 p381 q381; cases e381; replace p381 := eq_true p381; replace q381 := eq_true q381; have p382 : 0 ≤ (x6_1 : Int) := of_decide_eq_true (by first | (with_reducible assumption) | assumption); have q382 : x6_1 < (l1.length : Int) := of_decide_eq_true (by first | (with_reducible assumption) | assumption); obtain ⟨ad382, e382, hx382_0⟩ := Kd.at_int HR1.out x6_1 p382 q382; obtain rfl : ad381 = ad382 := (by injection e382); replace p382 := eq_true p382; replace q382 := eq_true q382)))
                              go_ret2
                              exact ⟨by first | rfl | (simp; done) | (simp [*]; done), by repeat (first | exact Drawn0.refl _ | apply Drawn0.step)⟩
                            · rw [if_neg c21] at H
                              have c21b0 : decide (32767 < (rd l1 x6_1)) = false := decide_eq_false c21
                              clear c21
                              have H' := Asd.mk H
                              clear H
                              go_wp2_with (first | (go_at_call 71; (with_reducible refine (r05boolean.calls a0 false _ A14.out).mono ?_); rintro e w' ⟨rfl, ⟨nd, rfl⟩⟩; (try first | exact ⟨rfl, _, World.drewN_drewN _ _ _⟩ | exact ⟨rfl, _, Eq.trans (World.drewN_drewN _ _ _) (congrArg (World.drewN _) (Nat.add_assoc _ _ _))⟩)) | (go_at_call 72; (with_reducible refine (r05equality.calls a0 false _ A16.out).mono ?_); rintro e w' ⟨rfl, ⟨nd, rfl⟩⟩; (try first | exact ⟨rfl, _, World.drewN_drewN _ _ _⟩ | exact ⟨rfl, _, Eq.trans (World.drewN_drewN _ _ _) (congrArg (World.drewN _) (Nat.add_assoc _ _ _))⟩); have p381 : 0 ≤ (x6_1 : Int) := of_decide_eq_true (by first | (with_reducible assumption) | assumption); have q381 : x6_1 < (l1.length : Int) := of_decide_eq_true (by first | (with_reducible assumption) | assumption); obtain ⟨ad381, e381, hx381_0⟩ := Kd.at_int HR1.out x6_1 p381 q381; cases e381; replace p381 := eq_true p381; replace q381 := eq_true q381; have p382 : 0 ≤ (x6_1 : Int) := of_decide_eq_true (by first | (with_reducible assumption) | assumption); have q382 : x6_1 < (l1.length : Int) := of_decide_eq_true (by first | (with_reducible assumption) | assumption); obtain ⟨ad382, e382, hx382_0⟩ := Kd.at_int HR1.out x6_1 p382 q382; obtain rfl : ad381 = ad382 := (by injection e382); replace p382 := eq_true p382; replace q382 := eq_true q382))
                              repeat (go_quiet (first | (go_at_call 71; (with_reducible refine (r05boolean.calls a0 false _ A14.out).mono ?_); rintro e w' ⟨rfl, ⟨nd, rfl⟩⟩; (try first | exact ⟨rfl, _, World.drewN_drewN _ _ _⟩ | exact ⟨rfl, _, Eq.trans (World.drewN_drewN _ _ _) (congrArg (World.drewN _) (Nat.add_assoc _ _ _))⟩)) | (go_at_call 72; (with_reducible refine (r05equality.calls a0 false _ A16.out).mono ?_); rintro e w' ⟨rfl, ⟨nd, rfl⟩⟩; (try first | exact ⟨rfl, _, World.drewN_drewN _ _ _⟩ | exact ⟨rfl, _, Eq.trans (World.drewN_drewN _ _ _) (congrArg (World.drewN _) (Nat.add_assoc _ _ _))⟩); have p381 : 0 ≤ (x6_1 : Int) := of_decide_eq_true (by first | (with_reducible assumption) | assumption); have q381 : x6_1 < (l1.length : Int) := of_decide_eq_true (by first | (with_reducible assumption) | assumption); obtain ⟨ad381, e381, hx381_0⟩ := Kd.at_int HR1.out x6_1 p381 q381; cases e381; replace p381 := eq_true p381; replace q381 := eq_true q381; have p382 : 0 ≤ (x6_1 : Int) := of_decide_eq_true (by first | (with_reducible assumption) | assumption); have q382 : x6_1 < (l1.length : Int) := of_decide_eq_true (by first | (with_reducible assumption) | assumption); obtain ⟨ad382, e382, hx382_0⟩ := Kd.at_int HR1.out x6_1 p382 q382; obtain rfl : ad381 = ad382 := (by injection e382); replace p382 := eq_true p382; replace q382 := eq_true q382)); try go_wp2_with (first | (go_at_call 71; (with_reducible refine (r05boolean.calls a0 false _ A14.out).mono ?_); rintro e w' ⟨rfl, ⟨nd, rfl⟩⟩; (try first | exact ⟨rfl, _, World.drewN_drewN _ _ _⟩ | exact ⟨rfl, _, Eq.trans (World.drewN_drewN _ _ _) (congrArg (World.drewN _) (Nat.add_assoc _ _ _))⟩)) | (go_at_call 72; (with_reducible refine (r05equality.calls a0 false _ A16.out).mono ?_); rintro e w' ⟨rfl, ⟨nd, rfl⟩⟩; (try first | exact ⟨rfl, _, World.drewN_drewN _ _ _⟩ | exact ⟨rfl, _, Eq.trans (World.drewN_drewN _ _ _) (congrArg (World.drewN _) (Nat.add_assoc _ _ _))⟩); have p381 : 0 ≤ (x6_1 : Int) := of_decide_eq_true (by first | (with_reducible assumption) | assumption); have q381 : x6_1 < (l1.length : Int) := of_decide_eq_true (by first | (with_reducible assumption) | assumption); obtain ⟨ad381, e381, hx381_0⟩ := Kd.at_int HR1.out x6_1 p381 q381; cases e381; replace p381 := eq_true p381; replace q381 := eq_true q381; have p382 : 0 ≤ (x6_1 : Int) := of_decide_eq_true (by first | (with_reducible assumption) | assumption); have q382 : x6_1 < (l1.length : Int) := of_decide_eq_true (by first | (with_reducible assumption) | assumption); obtain ⟨ad382, e382, hx382_0⟩ := Kd.at_int HR1.out x6_1 p382 q382; obtain rfl : ad381 = ad382 := (by injection e382); replace p382 := eq_true p382; replace q382 := eq_true q382)))
                              go_roundg kj7
                              case measure => have := HK1.out; have := HJ7.out; omega
                              case rel => exact ⟨(wrap64 (x6_1 + 1)), (by first | rfl | (simp; done) | (simp [*]; done)), H', ⟨by have := HK1.out; have := HJ7.out; omega⟩, by repeat (first | exact Drawn0.refl _ | apply Drawn0.step)⟩
                        · rw [if_neg c19] at H
                          exact absurd H (by simp)
                      · rw [if_neg c18] at H
                        exact absurd H (by simp)
          · rw [if_neg c7] at H
            have c7b0 : decide (x6_1 < (l1.length : Int)) = false := decide_eq_false c7
            clear c7
            by_cases c22 : a0 = 1
            · rw [if_pos c22] at H
              have c22b0 : (a0 == 1) = true := beq_iff_eq.mpr c22
              have c22b1 : (a0 != 1) = false := bne_eq_false_iff_eq.mpr c22
              clear c22
              by_cases c23 : 0 < (l1.length : Int)
              · rw [if_pos c23] at H
                have c23b0 : decide (0 < (l1.length : Int)) = true := decide_eq_true c23
                have c23b1 : decide (0 < l1.length) = true := decide_eq_true (by omega)
                clear c23
                simp only [Option.some.injEq, Prod.mk.injEq] at H
                obtain ⟨rfl, rfl⟩ := H
                have p383 : 0 ≤ (0 : Int) := (by omega)
                have q383 : 0 < (l1.length : Int) := of_decide_eq_true (by first | (with_reducible assumption) | assumption)
                obtain ⟨ad383, e383, hx383_0⟩ := Kd.at_int HR1.out 0 p383 q383
                cases e383
                have qi383 : (0 < l1.length) = True := eq_true (by omega)
                (try rw [show ((0 : Int)).toNat = 0 from rfl] at hx383_0)
                (try rw [Addr.add_zero'] at hx383_0)
                replace p383 := eq_true p383
                replace q383 := eq_true q383
                go_wp2
                repeat (go_quiet (fail); try go_wp2)
                go_ret2
                exact ⟨by first | rfl | (simp; done) | (simp [*]; done), by repeat (first | exact Drawn0.refl _ | apply Drawn0.step)⟩
              · rw [if_neg c23] at H
                exact absurd H (by simp)
            · rw [if_neg c22] at H
              have c22b0 : (a0 == 1) = false := beq_eq_false_iff_ne.mpr c22
              have c22b1 : (a0 != 1) = true := bne_iff_ne.mpr c22
              by_cases c24 : a0 = 2
              · rw [if_pos c24] at H
                have c24b0 : (a0 == 2) = true := beq_iff_eq.mpr c24
                have c24b1 : (a0 != 2) = false := bne_eq_false_iff_eq.mpr c24
                clear c24
                by_cases c25 : 0 < (l1.length : Int)
                · rw [if_pos c25] at H
                  have c25b0 : decide (0 < (l1.length : Int)) = true := decide_eq_true c25
                  have c25b1 : decide (0 < l1.length) = true := decide_eq_true (by omega)
                  clear c25
                  replace H := Option.bind_eq_some_iff.mp H
                  obtain ⟨t385, A260, H⟩ := H
                  replace H : (some (t385, 0)) = some (r1, r2) := H
                  have A26 := Asd.mk A260
                  clear A260
                  simp only [Option.some.injEq, Prod.mk.injEq] at H
                  obtain ⟨rfl, rfl⟩ := H
                  have p384 : 0 ≤ (0 : Int) := (by omega)
                  have q384 : 0 < (l1.length : Int) := of_decide_eq_true (by first | (with_reducible assumption) | assumption)
                  obtain ⟨ad384, e384, hx384_0⟩ := Kd.at_int HR1.out 0 p384 q384
                  cases e384
                  have qi384 : (0 < l1.length) = True := eq_true (by omega)
                  (try rw [show ((0 : Int)).toNat = 0 from rfl] at hx384_0)
                  (try rw [Addr.add_zero'] at hx384_0)
                  replace p384 := eq_true p384
                  replace q384 := eq_true q384
                  go_wp2_with (first | (go_at_call 74; (with_reducible refine (r01Neg.calls (rd l1 0) t385 _ A26.out).mono ?_); rintro e w' ⟨rfl, ⟨nd, rfl⟩⟩; (try first | exact ⟨rfl, _, World.drewN_drewN _ _ _⟩ | exact ⟨rfl, _, Eq.trans (World.drewN_drewN _ _ _) (congrArg (World.drewN _) (Nat.add_assoc _ _ _))⟩)))
                  repeat (go_quiet (first | (go_at_call 74; (with_reducible refine (r01Neg.calls (rd l1 0) t385 _ A26.out).mono ?_); rintro e w' ⟨rfl, ⟨nd, rfl⟩⟩; (try first | exact ⟨rfl, _, World.drewN_drewN _ _ _⟩ | exact ⟨rfl, _, Eq.trans (World.drewN_drewN _ _ _) (congrArg (World.drewN _) (Nat.add_assoc _ _ _))⟩))); try go_wp2_with (first | (go_at_call 74; (with_reducible refine (r01Neg.calls (rd l1 0) t385 _ A26.out).mono ?_); rintro e w' ⟨rfl, ⟨nd, rfl⟩⟩; (try first | exact ⟨rfl, _, World.drewN_drewN _ _ _⟩ | exact ⟨rfl, _, Eq.trans (World.drewN_drewN _ _ _) (congrArg (World.drewN _) (Nat.add_assoc _ _ _))⟩))))
                  go_ret2
                  exact ⟨by first | rfl | (simp; done) | (simp [*]; done), by repeat (first | exact Drawn0.refl _ | apply Drawn0.step)⟩
                · rw [if_neg c25] at H
                  exact absurd H (by simp)
              · rw [if_neg c24] at H
                have c24b0 : (a0 == 2) = false := beq_eq_false_iff_ne.mpr c24
                have c24b1 : (a0 != 2) = true := bne_iff_ne.mpr c24
                by_cases c27 : 0 < (l1.length : Int)
                · rw [if_pos c27] at H
                  have c27b0 : decide (0 < (l1.length : Int)) = true := decide_eq_true c27
                  have c27b1 : decide (0 < l1.length) = true := decide_eq_true (by omega)
                  clear c27
                  by_cases c28 : 1 < (l1.length : Int)
                  · rw [if_pos c28] at H
                    have c28b0 : decide (1 < (l1.length : Int)) = true := decide_eq_true c28
                    have c28b1 : decide (1 < l1.length) = true := decide_eq_true (by omega)
                    clear c28
                    replace H := Option.bind_eq_some_iff.mp H
                    obtain ⟨t388, A290, H⟩ := H
                    replace H : (some (t388, 0)) = some (r1, r2) := H
                    have A29 := Asd.mk A290
                    clear A290
                    simp only [Option.some.injEq, Prod.mk.injEq] at H
                    obtain ⟨rfl, rfl⟩ := H
                    have p386 : 0 ≤ (0 : Int) := (by omega)
                    have q386 : 0 < (l1.length : Int) := of_decide_eq_true (by first | (with_reducible assumption) | assumption)
                    obtain ⟨ad386, e386, hx386_0⟩ := Kd.at_int HR1.out 0 p386 q386
                    cases e386
                    have qi386 : (0 < l1.length) = True := eq_true (by omega)
                    (try rw [show ((0 : Int)).toNat = 0 from rfl] at hx386_0)
                    (try rw [Addr.add_zero'] at hx386_0)
                    replace p386 := eq_true p386
                    replace q386 := eq_true q386
                    have p387 : 0 ≤ (1 : Int) := (by omega)
                    have q387 : 1 < (l1.length : Int) := of_decide_eq_true (by first | (with_reducible assumption) | assumption)
                    obtain ⟨ad387, e387, hx387_0⟩ := Kd.at_int HR1.out 1 p387 q387
                    obtain rfl : ad386 = ad387 := (by injection e387)
                    (try simp only [show (1 : Int).toNat = 1 from rfl, Nat.reduceMul, Nat.reduceEqDiff, Go.Addr.add, ↓reduceIte] at hx387_0)
                    have qi387 : (1 < l1.length) = True := eq_true (by omega)
                    (try rw [show ((1 : Int)).toNat = 1 from rfl] at hx387_0)
                    replace p387 := eq_true p387
                    replace q387 := eq_true q387
                    go_wp2_with (first | (go_at_call 75; (with_reducible refine (r05compute.calls a0 (rd l1 0) (rd l1 1) t388 _ A29.out).mono ?_); rintro e w' ⟨rfl, ⟨nd, rfl⟩⟩; (try first | exact ⟨rfl, _, World.drewN_drewN _ _ _⟩ | exact ⟨rfl, _, Eq.trans (World.drewN_drewN _ _ _) (congrArg (World.drewN _) (Nat.add_assoc _ _ _))⟩)))
                    repeat (go_quiet (first | (go_at_call 75; (with_reducible refine (r05compute.calls a0 (rd l1 0) (rd l1 1) t388 _ A29.out).mono ?_); rintro e w' ⟨rfl, ⟨nd, rfl⟩⟩; (try first | exact ⟨rfl, _, World.drewN_drewN _ _ _⟩ | exact ⟨rfl, _, Eq.trans (World.drewN_drewN _ _ _) (congrArg (World.drewN _) (Nat.add_assoc _ _ _))⟩))); try go_wp2_with (first | (go_at_call 75; (with_reducible refine (r05compute.calls a0 (rd l1 0) (rd l1 1) t388 _ A29.out).mono ?_); rintro e w' ⟨rfl, ⟨nd, rfl⟩⟩; (try first | exact ⟨rfl, _, World.drewN_drewN _ _ _⟩ | exact ⟨rfl, _, Eq.trans (World.drewN_drewN _ _ _) (congrArg (World.drewN _) (Nat.add_assoc _ _ _))⟩))))
                    go_ret2
                    exact ⟨by first | rfl | (simp; done) | (simp [*]; done), by repeat (first | exact Drawn0.refl _ | apply Drawn0.step)⟩
                  · rw [if_neg c28] at H
                    exact absurd H (by simp)
                · rw [if_neg c27] at H
                  exact absurd H (by simp)
    · rw [if_neg c6] at H
      have c6b0 : ((l1.length : Int) == t374) = false := beq_eq_false_iff_ne.mpr c6
      have c6b1 : ((l1.length : Int) != t374) = true := bne_iff_ne.mpr c6
      simp only [Option.some.injEq, Prod.mk.injEq] at H
      obtain ⟨rfl, rfl⟩ := H
      go_enter Try.func49, Try.ntmps49
      go_wp2_with (first | (go_at_call 70; (with_reducible refine (r05operands.calls k a0 t374 _ A3.out).mono ?_); rintro e w' ⟨rfl, ⟨nd, rfl⟩⟩; (try first | exact ⟨rfl, _, World.drewN_drewN _ _ _⟩ | exact ⟨rfl, _, Eq.trans (World.drewN_drewN _ _ _) (congrArg (World.drewN _) (Nat.add_assoc _ _ _))⟩)) | (go_at_call 70; (with_reducible refine (r05operands.calls k a0 t374 _ A5.out).mono ?_); rintro e w' ⟨rfl, ⟨nd, rfl⟩⟩; (try first | exact ⟨rfl, _, World.drewN_drewN _ _ _⟩ | exact ⟨rfl, _, Eq.trans (World.drewN_drewN _ _ _) (congrArg (World.drewN _) (Nat.add_assoc _ _ _))⟩)))
      repeat (go_quiet (first | (go_at_call 70; (with_reducible refine (r05operands.calls k a0 t374 _ A3.out).mono ?_); rintro e w' ⟨rfl, ⟨nd, rfl⟩⟩; (try first | exact ⟨rfl, _, World.drewN_drewN _ _ _⟩ | exact ⟨rfl, _, Eq.trans (World.drewN_drewN _ _ _) (congrArg (World.drewN _) (Nat.add_assoc _ _ _))⟩)) | (go_at_call 70; (with_reducible refine (r05operands.calls k a0 t374 _ A5.out).mono ?_); rintro e w' ⟨rfl, ⟨nd, rfl⟩⟩; (try first | exact ⟨rfl, _, World.drewN_drewN _ _ _⟩ | exact ⟨rfl, _, Eq.trans (World.drewN_drewN _ _ _) (congrArg (World.drewN _) (Nat.add_assoc _ _ _))⟩))); try go_wp2_with (first | (go_at_call 70; (with_reducible refine (r05operands.calls k a0 t374 _ A3.out).mono ?_); rintro e w' ⟨rfl, ⟨nd, rfl⟩⟩; (try first | exact ⟨rfl, _, World.drewN_drewN _ _ _⟩ | exact ⟨rfl, _, Eq.trans (World.drewN_drewN _ _ _) (congrArg (World.drewN _) (Nat.add_assoc _ _ _))⟩)) | (go_at_call 70; (with_reducible refine (r05operands.calls k a0 t374 _ A5.out).mono ?_); rintro e w' ⟨rfl, ⟨nd, rfl⟩⟩; (try first | exact ⟨rfl, _, World.drewN_drewN _ _ _⟩ | exact ⟨rfl, _, Eq.trans (World.drewN_drewN _ _ _) (congrArg (World.drewN _) (Nat.add_assoc _ _ _))⟩))))
      go_ret2
      exact ⟨by first | rfl | (simp; done) | (simp [*]; done), by repeat (first | exact Drawn0.refl _ | apply Drawn0.step)⟩
end Go.Proofs.Ytgbpdfkobelbcaa.PSimpFolds
end
section
open Go Go.RowKit Go.Proofs.Ytgbpdfkobelbcaa.PSimpFolds Go.Proofs.YtgbpdfkobelbcaaW.PrintWords
set_option linter.unusedSimpArgs false
set_option linter.unusedVariables false
namespace Go.Ref
theorem wrap_eq (a : Int) : word_Wrap.f a = r01Wrap.f a := by
  have key : wrap64 (IntKind.i16.wrap a) = (a + 32768) % 65536 - 32768 := by
    have h : IntKind.i16.wrap a = if 32768 ≤ a % 65536 then a % 65536 - 65536 else a % 65536 := by
      unfold IntKind.wrap; simp [IntKind.bits, IntKind.signed]
    rw [h]
    unfold wrap64
    split <;> omega
  unfold word_Wrap.f r01Wrap.f
  rw [key]
  have h : (Int.tmod a 65536 = a % 65536 ∧ 0 ≤ a) ∨ (Int.tmod a 65536 = -((-a) % 65536) ∧ a < 0) := by
    by_cases h0 : 0 ≤ a
    · exact .inl ⟨Int.tmod_eq_emod_of_nonneg h0, h0⟩
    · refine .inr ⟨?_, by omega⟩
      have : a = -(-a) := by omega
      rw [this, Int.neg_tmod, Int.tmod_eq_emod_of_nonneg (by omega)]
      simp
  rcases h with ⟨h, h0⟩ | ⟨h, h0⟩ <;> rw [h] <;> split
  all_goals (try split)
  all_goals simp only [Option.some.injEq, wrap64]
  all_goals omega
theorem w64_0 : wrap64 0 = 0 := by unfold wrap64; omega
theorem w64_1 : wrap64 1 = 1 := by unfold wrap64; omega
theorem w64_2 : wrap64 2 = 2 := by unfold wrap64; omega
theorem res_0 (k : Nat) (op : Int) (l : List Int) (h : op < 1 ∨ 16 < op) : vRe.f (k + 20) op l = r05Result.f (k + 20) op l ∧ (vRe.f 20 op l).isSome = true := by
  have hgt : ¬ (2 < op ∧ op ≤ 16) := by omega
  constructor
  · simp [vRe.f, vGr.f, vGr.j0, vGr.j1, vGr.j2, r05Result.f, r05operands.f, r05operands.j0, show ¬ op = 1 by omega, show ¬ op = 2 by omega, show ¬ op = 3 by omega, show ¬ op = 4 by omega, show ¬ op = 5 by omega, show ¬ op = 6 by omega, show ¬ op = 7 by omega, show ¬ op = 8 by omega, show ¬ op = 9 by omega, show ¬ op = 10 by omega, show ¬ op = 11 by omega, show ¬ op = 12 by omega, show ¬ op = 13 by omega, show ¬ op = 14 by omega, show ¬ op = 15 by omega, show ¬ op = 16 by omega]
    split
    · split
      · omega
      · simp
    · simp
  · simp [vRe.f, vGr.f, vGr.j0, vGr.j1, vGr.j2, show ¬ op = 1 by omega, show ¬ op = 2 by omega, show ¬ op = 3 by omega, show ¬ op = 4 by omega, show ¬ op = 5 by omega, show ¬ op = 6 by omega, show ¬ op = 7 by omega, show ¬ op = 8 by omega, show ¬ op = 9 by omega, show ¬ op = 10 by omega, show ¬ op = 11 by omega, show ¬ op = 12 by omega, show ¬ op = 13 by omega, show ¬ op = 14 by omega, show ¬ op = 15 by omega, show ¬ op = 16 by omega]
theorem app_0 (k : Nat) (op : Int) (l : List Int) (h : op < 1 ∨ 16 < op) : vAp.f (k + 20) op l = r05Apply.f (k + 20) op l ∧ (vAp.f 20 op l).isSome = true := by
  have hgt : ¬ (2 < op ∧ op ≤ 16) := by omega
  constructor
  · simp [vAp.f, vGr.f, vGr.j0, vGr.j1, vGr.j2, r05Apply.f, r05operands.f, r05operands.j0, show ¬ op = 1 by omega, show ¬ op = 2 by omega, show ¬ op = 3 by omega, show ¬ op = 4 by omega, show ¬ op = 5 by omega, show ¬ op = 6 by omega, show ¬ op = 7 by omega, show ¬ op = 8 by omega, show ¬ op = 9 by omega, show ¬ op = 10 by omega, show ¬ op = 11 by omega, show ¬ op = 12 by omega, show ¬ op = 13 by omega, show ¬ op = 14 by omega, show ¬ op = 15 by omega, show ¬ op = 16 by omega]
    split
    · split
      · omega
      · simp
    · simp
  · simp [vAp.f, vGr.f, vGr.j0, vGr.j1, vGr.j2, show ¬ op = 1 by omega, show ¬ op = 2 by omega, show ¬ op = 3 by omega, show ¬ op = 4 by omega, show ¬ op = 5 by omega, show ¬ op = 6 by omega, show ¬ op = 7 by omega, show ¬ op = 8 by omega, show ¬ op = 9 by omega, show ¬ op = 10 by omega, show ¬ op = 11 by omega, show ¬ op = 12 by omega, show ¬ op = 13 by omega, show ¬ op = 14 by omega, show ¬ op = 15 by omega, show ¬ op = 16 by omega]
def inB (a : Int) : Prop := -32768 ≤ a ∧ a ≤ 32767
instance (a : Int) : Decidable (inB a) := inferInstanceAs (Decidable (_ ∧ _))
theorem in_yes {a : Int} (h : inB a) : word_In.f a = some true := by unfold word_In.f; rw [if_pos h.1, decide_eq_true h.2]
theorem in_no {a : Int} (h : ¬ inB a) : word_In.f a = some false := by
  unfold word_In.f inB at *
  split
  · rename_i h1; rw [decide_eq_false (fun h2 => h ⟨h1, h2⟩)]
  · rfl
theorem val2_step (k : Nat) (op g : Int) (hg : g = 2 ∨ g = 4) (a b : Int) (i : Nat) (hi : i < 2) :
    vAp.l0 (k + 1) op [a, b] g 2 [a, b] 2 (i : Int) = if inB (rd [a, b] (i : Int)) then vAp.l0 k op [a, b] g 2 [a, b] 2 ((i + 1 : Nat) : Int) else some (0, 14) := by
  have w : wrap64 ((i : Int) + 1) = ((i + 1 : Nat) : Int) := by unfold wrap64; omega
  have h1 : ¬ g = 1 := by omega
  have h2 : (i : Int) < 2 := by omega
  simp only [vAp.l0, h2, if_true, show (0 : Int) ≤ (i : Int) by omega, List.length_cons, List.length_nil, show (i : Int) < ((0 + 1 + 1 : Nat) : Int) by omega, h1, if_false, w]
  by_cases hb : inB (rd [a, b] (i : Int))
  · rw [in_yes hb, if_pos hb]
    rcases hg with rfl | rfl <;> simp
  · rw [in_no hb, if_neg hb]
    rcases hg with rfl | rfl <;> simp
theorem val2 (k : Nat) (op g : Int) (hg : g = 2 ∨ g = 4) (hgr : vGr.f (k + 20) op = some (g, 2)) (a b : Int) :
    vAp.f (k + 20) op [a, b] = if inB a ∧ inB b then (if g = 2 then (vCo.f op a b).bind fun t => some (t, 0) else (vHo.f (k + 17) op a b).bind fun t => (vTr.f t).bind fun u => some (u, 0)) else some (0, 14) := by
  have h0 : ¬ g = 0 := by omega
  have hl : (([a, b] : List Int).length : Int) = 2 := rfl
  have e1 := val2_step (k + 19) op g hg a b 0 (by omega)
  have e2 := val2_step (k + 18) op g hg a b 1 (by omega)
  have r0 : rd [a, b] ((0 : Nat) : Int) = a := rfl
  have r1 : rd [a, b] ((1 : Nat) : Int) = b := rfl
  rw [r0] at e1
  rw [r1] at e2
  have e3 : vAp.l0 (k + 18) op [a, b] g 2 [a, b] 2 ((1 + 1 : Nat) : Int) = (if g = 2 then (vCo.f op a b).bind fun t => some (t, 0) else (vHo.f (k + 17) op a b).bind fun t => (vTr.f t).bind fun u => some (u, 0)) := by
    have w : wrap64 (2 - 1) = 1 := by unfold wrap64; omega
    simp only [vAp.l0, show ¬ (((1 + 1 : Nat) : Int) < 2) by omega, if_false, List.length_cons, List.length_nil, w, show (0 : Int) < ((0 + 1 + 1 : Nat) : Int) by omega, show (1 : Int) < ((0 + 1 + 1 : Nat) : Int) by omega, if_true, show (0 : Int) ≤ 1 by omega]
    rfl
  unfold vAp.f
  rw [hgr, Option.bind_some]
  simp only [h0, if_false, hl, if_true]
  refine e1.trans ?_
  by_cases ha : inB a
  · rw [if_pos ha]
    refine e2.trans ?_
    by_cases hb : inB b
    · rw [if_pos hb, if_pos ⟨ha, hb⟩]; exact e3
    · rw [if_neg hb, if_neg (fun h => hb h.2)]
  · rw [if_neg ha, if_neg (fun h => ha h.1)]
theorem ref2_step (k : Nat) (op : Int) (hb : r05boolean.f op = some false) (he : r05equality.f op = some false) (a b : Int) (i : Nat) (hi : i < 2) :
    r05Apply.l0 (k + 2) op [a, b] (i : Int) = if inB (rd [a, b] (i : Int)) then r05Apply.l0 k op [a, b] ((i + 1 : Nat) : Int) else some (0, 14) := by
  have w : wrap64 ((i : Int) + 1) = ((i + 1 : Nat) : Int) := by unfold wrap64; omega
  have h2 : (i : Int) < (([a, b] : List Int).length : Int) := by show (i : Int) < 2; omega
  simp only [r05Apply.l0, h2, if_true, hb, Option.bind_some, Bool.false_eq_true, if_false, r05Apply.j1, he, show (0 : Int) ≤ (i : Int) by omega, w]
  by_cases h3 : rd [a, b] (i : Int) < -32768
  · rw [if_pos h3, if_neg (show ¬ inB _ from fun h => by have := h.1; omega)]
  · rw [if_neg h3]
    by_cases h4 : rd [a, b] (i : Int) > 32767
    · rw [if_pos h4, if_neg (show ¬ inB _ from fun h => by have := h.2; omega)]
    · rw [if_neg h4, if_pos (show inB _ from ⟨by omega, by omega⟩)]
theorem ref2 (k : Nat) (op : Int) (ho : r05operands.f (k + 20) op = some 2) (hb : r05boolean.f op = some false) (he : r05equality.f op = some false) (h1 : ¬ op = 1) (h2 : ¬ op = 2) (a b : Int) :
    r05Apply.f (k + 20) op [a, b] = if inB a ∧ inB b then (r05compute.f op a b).bind fun t => some (t, 0) else some (0, 14) := by
  have hl : (([a, b] : List Int).length : Int) = 2 := rfl
  have e1 := ref2_step (k + 18) op hb he a b 0 (by omega)
  have e2 := ref2_step (k + 16) op hb he a b 1 (by omega)
  have r0 : rd [a, b] ((0 : Nat) : Int) = a := rfl
  have r1 : rd [a, b] ((1 : Nat) : Int) = b := rfl
  rw [r0] at e1
  rw [r1] at e2
  have e3 : r05Apply.l0 (k + 16) op [a, b] ((1 + 1 : Nat) : Int) = (r05compute.f op a b).bind fun t => some (t, 0) := by
    simp only [r05Apply.l0, hl, show ¬ (((1 + 1 : Nat) : Int) < 2) by omega, if_false, h1, h2, show (0 : Int) < 2 by omega, show (1 : Int) < 2 by omega, if_true]
    rfl
  unfold r05Apply.f
  rw [ho, Option.bind_some]
  simp only [show ¬ ((2 : Int) = 0) by omega, if_false, Option.bind_some, hl, if_true]
  refine e1.trans ?_
  by_cases ha : inB a
  · rw [if_pos ha]
    refine e2.trans ?_
    by_cases hb' : inB b
    · rw [if_pos hb', if_pos ⟨ha, hb'⟩]; exact e3
    · rw [if_neg hb', if_neg (fun h => hb' h.2)]
  · rw [if_neg ha, if_neg (fun h => ha h.1)]
theorem ops_of (op : Int) : op = 1 ∨ op = 2 ∨ op = 3 ∨ op = 4 ∨ op = 5 ∨ op = 6 ∨ op = 7 ∨ op = 8 ∨ op = 9 ∨ op = 10 ∨ op = 11 ∨ op = 12 ∨ op = 13 ∨ op = 14 ∨ op = 15 ∨ op = 16 ∨ (op < 1 ∨ 16 < op) := by omega
theorem len1 {l : List Int} (h : l.length = 1) : ∃ a, l = [a] := by
  match l, h with
  | [a], _ => exact ⟨a, rfl⟩
theorem len2 {l : List Int} (h : l.length = 2) : ∃ a b, l = [a, b] := by
  match l, h with
  | [a, b], _ => exact ⟨a, b, rfl⟩
end Go.Ref
end
