/- A part of the proofs of two laws of folding: words, a reference machine, contracts. -/
import Derived.Test.YtgbpdfkobelbcaaSxE
import Derived.Test.YtgbpdfkobelbcaaSxF
import Derived.Test.YtgbpdfkobelbcaaSxG
import Derived.Test.YtgbpdfkobelbcaaSxH
import Derived.Test.YtgbpdfkobelbcaaSxI
section
open Go Go.RowKit Go.Proofs.Ytgbpdfkobelbcaa.PSimpFolds Go.Proofs.YtgbpdfkobelbcaaW.PrintWords
set_option linter.unusedSimpArgs false
set_option linter.unusedVariables false
namespace Go.Ref
theorem res_all (k : Nat) (op : Int) (l : List Int) : vRe.f (k + 20) op l = r05Result.f (k + 20) op l ∧ (vRe.f 20 op l).isSome = true := by
  rcases ops_of op with rfl | rfl | rfl | rfl | rfl | rfl | rfl | rfl | rfl | rfl | rfl | rfl | rfl | rfl | rfl | rfl | h
  · exact res_1 k l
  · exact res_2 k l
  · exact res_3 k l
  · exact res_4 k l
  · exact res_5 k l
  · exact res_6 k l
  · exact res_7 k l
  · exact res_8 k l
  · exact res_9 k l
  · exact res_10 k l
  · exact res_11 k l
  · exact res_12 k l
  · exact res_13 k l
  · exact res_14 k l
  · exact res_15 k l
  · exact res_16 k l
  · exact res_0 k op l h
theorem app_all (k : Nat) (op : Int) (l : List Int) : vAp.f (k + 20) op l = r05Apply.f (k + 20) op l ∧ (vAp.f 20 op l).isSome = true := by
  rcases ops_of op with rfl | rfl | rfl | rfl | rfl | rfl | rfl | rfl | rfl | rfl | rfl | rfl | rfl | rfl | rfl | rfl | h
  · exact app_1 k l
  · exact app_2 k l
  · exact app_3 k l
  · exact app_4 k l
  · exact app_5 k l
  · exact app_6 k l
  · exact app_7 k l
  · exact app_8 k l
  · exact app_9 k l
  · exact app_10 k l
  · exact app_11 k l
  · exact app_12 k l
  · exact app_13 k l
  · exact app_14 k l
  · exact app_15 k l
  · exact app_16 k l
  · exact app_0 k op l h
def resV (op : Int) (l : List Int) : Int × Int := (vRe.f 20 op l).getD (0, 0)
def appV (op : Int) (l : List Int) : Int × Int := (vAp.f 20 op l).getD (0, 0)
theorem leO_add {α : Type} {f : Nat → Option α} (h : ∀ k, LeO (f k) (f (k + 1))) (k j : Nat) : LeO (f k) (f (k + j)) := by
  induction j with
  | zero => exact LeO.refl _
  | succ j ih => exact LeO.trans ih (h (k + j))
theorem resV_eq (k : Nat) (op : Int) (l : List Int) : vRe.f (k + 20) op l = some (resV op l) ∧ r05Result.f (k + 20) op l = some (resV op l) := by
  obtain ⟨h1, h2⟩ := res_all k op l
  obtain ⟨r, hr⟩ := Option.isSome_iff_exists.1 h2
  have h3 : vRe.f (k + 20) op l = some r := by
    have := leO_add (fun k => vRe.mono op l k) 20 k r hr
    rwa [Nat.add_comm 20 k] at this
  have h4 : resV op l = r := by unfold resV; rw [hr]; rfl
  rw [h4, ← h1]
  exact ⟨h3, h3⟩
theorem appV_eq (k : Nat) (op : Int) (l : List Int) : vAp.f (k + 20) op l = some (appV op l) ∧ r05Apply.f (k + 20) op l = some (appV op l) := by
  obtain ⟨h1, h2⟩ := app_all k op l
  obtain ⟨r, hr⟩ := Option.isSome_iff_exists.1 h2
  have h3 : vAp.f (k + 20) op l = some r := by
    have := leO_add (fun k => vAp.mono op l k) 20 k r hr
    rwa [Nat.add_comm 20 k] at this
  have h4 : appV op l = r := by unfold appV; rw [hr]; rfl
  rw [h4, ← h1]
  exact ⟨h3, h3⟩
end Go.Ref
end
section
namespace Go.Proofs.Ytgbpdfkobelbcaa.PSimpFolds
open Go.RowKit Go.Proofs.YtgbpdfkobelbcaaW.PrintWords Go.Proofs.YtgbpdfkobelbcaaW.PrintLast Go.Proofs.YtgbpdfkobelbcaaW.PrintMore
attribute [local go_sem] max2_int min2_int max_two min_two max_three min_three max_four min_four
set_option linter.unusedVariables false
set_option linter.unusedSimpArgs false
def sCo.l0 : Nat → List Int → List Int → List (S24) → Int → Int → Int → Int → Int → Int → ByteArray → List (S24) → Option (Int × Int × Int × Int × ByteArray × (List (S24)) × Bool)
  | 0, _, _, _, _, _, _, _, _, _, _, _ => none
  | k + 1, x4, x5, x17, x18, x19, x145000, x145001, x145002, x145003, x145004, x145005 => if x19 < x18 then (if 0 ≤ x19 then (if x19 < (x17.length : Int) then (if ((rd_T24 x17 x19).f0) = 1 then ((some (([(rd_T24 x17 x19).f2] : List Int) : List Int)).bind fun y148 => (if x4.length + y148.length < 17592186044416 then ((some (([(rd_T24 x17 x19).f3] : List Int) : List Int)).bind fun y154 => (if x5.length + y154.length < 17592186044416 then (sCo.l0 k (x4 ++ y148) (x5 ++ y154) x17 x18 (wrap64 (x19 + 1)) x145000 x145001 x145002 x145003 x145004 x145005) else (none))) else (none))) else (some (x145000, x145001, x145002, x145003, x145004, x145005, false))) else (none)) else (none)) else ((vRe.f k x145001 x4).bind fun bt160 => ((vAp.f k x145001 x5).bind fun bt162 => (if bt160.2 = 0 then (some (1, 0, bt160.1, bt162.1, (⟨#[]⟩ : ByteArray), ([] : List (S24)), (bt162.2 == 0))) else (some (1, 0, bt160.1, bt162.1, (⟨#[]⟩ : ByteArray), ([] : List (S24)), false)))))
def sCo.f (k : Nat) (a0_0 : Int) (a0_1 : Int) (a0_2 : Int) (a0_3 : Int) (a0_4 : ByteArray) (l0_5 : List (S24)) : Option (Int × Int × Int × Int × ByteArray × (List (S24)) × Bool) := if a0_0 = 3 then (sCo.l0 k ([] : List Int) ([] : List Int) l0_5 (l0_5.length : Int) 0 a0_0 a0_1 a0_2 a0_3 a0_4 l0_5) else (some (a0_0, a0_1, a0_2, a0_3, a0_4, l0_5, false))
def sCo.T9 : Bool × List (List Nat × List Nat) := (true, [([], []), ([], []), ([1], [1]), ([2], [2]), ([0, 3], [0, 3]), ([], []), ([], []), ([6], [6]), ([7], [7]), ([5, 8, 4], [5, 8]), ([4, 9, 0, 1, 2, 3, 4], [0, 4]), ([9, 10, 0, 1, 2, 3, 4, 5, 6, 7, 8, 9, 10], [5, 9])])
def sCo.B9 : List Nat := [0, 0, 2, 6, 15, 0, 0, 64, 192, 511, 1023, 2047]
theorem sCo.tab9 : rtab .any (opsOf Try.f44 9) = sCo.T9 := by kernel_rfl
theorem sCo.bits9 : waitsOk sCo.T9.2 sCo.B9 = true := by kernel_rfl
set_option maxHeartbeats 8000000 in
set_option maxRecDepth 100000 in
theorem sCo.calls (k : Nat) (a0_0 : Int) (a0_1 : Int) (a0_2 : Int) (a0_3 : Int) (a0_4 : ByteArray) (P0_5_ : Nat → Prop) (A0_5 : Option Addr) (c0_5 : Nat) (l0_5 : List (S24)) (r1 : Int) (r2 : Int) (r3 : Int) (r4 : Int) (r5 : ByteArray) (r6 : List (S24)) (r7 : Bool) (w : World) (hs0_5 : Kd.V k24 24 w w.heap.size (fun k_ => P0_5_ k_) (.slice A0_5 l0_5.length c0_5) l0_5) (h3 : Asd (a0_0 = 3)) (h : sCo.f k a0_0 a0_1 a0_2 a0_3 a0_4 l0_5 = some (r1, r2, r3, r4, r5, r6, r7)) :
    Calls Try.prog 44 #[.agg #[.int .i64 a0_0, .int .i64 a0_1, .int .i64 a0_2, .int .i64 a0_3, .string a0_4, .slice A0_5 l0_5.length c0_5]] w fun e w' => ∃ v5_ : Value, e = .returned (.tuple #[.agg #[.int .i64 r1, .int .i64 r2, .int .i64 r3, .int .i64 r4, .string r5, v5_], .bool r7]) ∧ Kd.V k24 24 w' w.heap.size (fun k_ => (P0_5_ k_ ∨ w.heap.size ≤ k_)) v5_ r6 ∧ Below w.heap.size w w' := by
  have hu24 := Try.underlying24
  have HO0_5 := Asd.mk (show Kd.V k24 24 w w.heap.size (fun k_ => (P0_5_ k_ ∨ w.heap.size ≤ k_)) (.slice A0_5 l0_5.length c0_5) l0_5 from Kd.V_mono hs0_5 (fun k_ hk => .inl hk))
  have HB := Asd.mk (Below.refl w.heap.size w)
  have H : (if a0_0 = 3 then (sCo.l0 k ([] : List Int) ([] : List Int) l0_5 (l0_5.length : Int) 0 a0_0 a0_1 a0_2 a0_3 a0_4 l0_5) else (some (a0_0, a0_1, a0_2, a0_3, a0_4, l0_5, false))) = some (r1, r2, r3, r4, r5, r6, r7) := h
  clear h
  by_cases c2 : a0_0 = 3
  · rw [if_pos c2] at H
    have c2b0 : (a0_0 == 3) = true := beq_iff_eq.mpr c2
    have c2b1 : (a0_0 != 3) = false := bne_eq_false_iff_eq.mpr c2
    clear c2
    have H' := Asd.mk H
    clear H
    go_enter Try.func44, Try.ntmps44
    go_wp2_with (first | ((with_reducible refine gate_dst (N := 1) rfl ?_); refine box_event ?hg (N := 1) ?hd (cs := #[.int .i64 a0_0, .int .i64 a0_1, .int .i64 a0_2, .int .i64 a0_3, .string a0_4, .slice A0_5 l0_5.length c0_5]) (t := 24) ?hr ?_; (case hd => rfl); (case hg => rfl); (case hr => first | (go_simp; done) | (go_simp; rfl)); intro gb144 hg w3 hbox hb; have n0_ := Asd.mk (Kd.V_below (Kd.V_elderB (by (with_reducible repeat (first | apply Kd.V_alloc | apply Kd.V_drewN | apply Kd.V_drew)); exact HO0_5.out) gb144 (Nat.le_of_eq hg.symm)) hb); have n1_ := Asd.mk (wSp (by repeat (first | (with_reducible first | exact HB.out | apply wAl | apply pDN | apply wDr) | exact HB.out)) hb); have n2_ := Asd.mk (hbox); have n3_ := Asd.mk ((by rw [hg]; exact (wSz (by repeat (first | (with_reducible first | exact HB.out | apply wAl | apply pDN | apply wDr) | exact HB.out))) : w.heap.size ≤ gb144)); have n4_ := Asd.mk ((by rw [hg]; exact (wSz (by repeat (first | (with_reducible first | exact HB.out | apply wAl | apply pDN | apply wDr) | exact HB.out))) : w.heap.size ≤ gb144)); clear HO0_5; clear HB; have HO0_5 := n0_; have HB := n1_; have BK144 := n2_; have GW144 := n3_; have GE144 := n4_; clear n0_ n1_ n2_ n3_ n4_; clear hb hbox hg) | ((with_reducible refine gate_dst (N := 2) rfl ?_); refine box_event ?hg (N := 2) ?hd (cs := #[.int .i64 0, .int .i64 0, .int .i64 0, .int .i64 0, .string (⟨#[]⟩ : ByteArray), .slice none 0 0]) (t := 24) ?hr ?_; (case hd => rfl); (case hg => rfl); (case hr => first | (go_simp; done) | (go_simp; rfl)); intro gb145 hg w4 hbox hb; have n0_ := Asd.mk (Kd.V_below (Kd.V_elderB (by (with_reducible repeat (first | apply Kd.V_alloc | apply Kd.V_drewN | apply Kd.V_drew)); exact HO0_5.out) gb145 (Nat.le_of_eq hg.symm)) hb); have n1_ := Asd.mk (blk_below (g := gb144) (o := .cells #[.int .i64 a0_0, .int .i64 a0_1, .int .i64 a0_2, .int .i64 a0_3, .string a0_4, .slice A0_5 l0_5.length c0_5] 24 (0, 0)) (by (with_reducible repeat (first | refine bDN ?_ _ | refine bDr ?_ | refine bAl ?_ _)); exact BK144.out) hb); have n2_ := Asd.mk (wSp (by repeat (first | (with_reducible first | exact HB.out | apply wAl | apply pDN | apply wDr | refine wSt ?_ GE144.out) | exact HB.out)) hb); have n3_ := Asd.mk (hbox); have n4_ := Asd.mk ((by rw [hg]; exact (wSz (by repeat (first | (with_reducible first | exact HB.out | apply wAl | apply pDN | apply wDr | refine wSt ?_ GE144.out) | exact HB.out))) : w.heap.size ≤ gb145)); have n5_ := Asd.mk ((by rw [hg]; exact (wSz (by repeat (first | (with_reducible first | exact HB.out | apply wAl | apply pDN | apply wDr | refine wSt ?_ GE144.out) | exact HB.out))) : w.heap.size ≤ gb145)); have n6_ := Asd.mk ((by rw [hg]; exact Nat.ne_of_lt (blk_lt (g := gb144) (o := .cells #[.int .i64 a0_0, .int .i64 a0_1, .int .i64 a0_2, .int .i64 a0_3, .string a0_4, .slice A0_5 l0_5.length c0_5] 24 (0, 0)) (by (with_reducible repeat (first | refine bDN ?_ _ | refine bDr ?_ | refine bAl ?_ _)); exact BK144.out)) : gb144 ≠ gb145)); have n7_ := Asd.mk ((by rw [hg]; exact Nat.ne_of_gt (blk_lt (g := gb144) (o := .cells #[.int .i64 a0_0, .int .i64 a0_1, .int .i64 a0_2, .int .i64 a0_3, .string a0_4, .slice A0_5 l0_5.length c0_5] 24 (0, 0)) (by (with_reducible repeat (first | refine bDN ?_ _ | refine bDr ?_ | refine bAl ?_ _)); exact BK144.out)) : gb145 ≠ gb144)); clear HO0_5; clear BK144; clear HB; have HO0_5 := n0_; have BK144 := n1_; have HB := n2_; have BK145 := n3_; have GW145 := n4_; have GE145 := n5_; have NB144_145 := n6_; have NB145_144 := n7_; clear n0_ n1_ n2_ n3_ n4_ n5_ n6_ n7_; clear hb hbox hg; have hnb5 := NB144_145.out; have hnc5 := NB145_144.out; have hcz6_0 : w4.cell? ⟨gb144, 0, none⟩ = some (.int .i64 a0_0) := (bCl BK144.out 0).trans rfl; have hcz6_1 : w4.cell? ⟨gb144, 1, none⟩ = some (.int .i64 a0_1) := (bCl BK144.out 1).trans rfl; have hcz6_2 : w4.cell? ⟨gb144, 2, none⟩ = some (.int .i64 a0_2) := (bCl BK144.out 2).trans rfl; have hcz6_3 : w4.cell? ⟨gb144, 3, none⟩ = some (.int .i64 a0_3) := (bCl BK144.out 3).trans rfl; have hcz6_4 : w4.cell? ⟨gb144, 4, none⟩ = some (.string a0_4) := (bCl BK144.out 4).trans rfl; have hcz6_5 : w4.cell? ⟨gb144, 5, none⟩ = some (.slice A0_5 l0_5.length c0_5) := (bCl BK144.out 5).trans rfl; have hfz6_0 := bFz BK144.out 0; have hfz6_1 := bFz BK144.out 1; have hfz6_2 := bFz BK144.out 2; have hfz6_3 := bFz BK144.out 3; have hfz6_4 := bFz BK144.out 4; have hfz6_5 := bFz BK144.out 5))
    go_loopg [4, 5, 19] k (fun kq v4 v5 v19 w' => ∃ (x4_1 : List Int) (x5_1 : List Int) (x19_1 : Int) (x146000_1 : Int) (x146001_1 : Int) (x146002_1 : Int) (x146003_1 : Int) (x146004_1 : ByteArray), v19 = .int .i64 x19_1 ∧ Asd (sCo.l0 kq x4_1 x5_1 l0_5 (l0_5.length : Int) x19_1 a0_0 a0_1 a0_2 a0_3 a0_4 l0_5 = some (r1, r2, r3, r4, r5, r6, r7)) ∧ Asd (kq ≤ k) ∧ Asd (Kd.R (Kd.int .i64) 3 w' w.heap.size (fun k_ => (w.heap.size ≤ k_) ∧ some k_ ≠ (v5 : Value).ownBlock) v4 x4_1) ∧ Asd (Kd.R (Kd.int .i64) 3 w' w.heap.size (fun k_ => (w.heap.size ≤ k_) ∧ some k_ ≠ (v4 : Value).ownBlock) v5 x5_1) ∧ Asd (Kd.V k24 24 w' w.heap.size (fun k_ => (P0_5_ k_ ∨ w.heap.size ≤ k_) ∧ some k_ ≠ (v4 : Value).ownBlock ∧ some k_ ≠ (v5 : Value).ownBlock ∧ k_ ≠ gb144 ∧ k_ ≠ gb145) (.slice A0_5 l0_5.length c0_5) l0_5) ∧ Asd (Kd.V k24 24 w' w.heap.size (fun k_ => (P0_5_ k_ ∨ w.heap.size ≤ k_) ∧ some k_ ≠ (v4 : Value).ownBlock ∧ some k_ ≠ (v5 : Value).ownBlock ∧ k_ ≠ gb144 ∧ k_ ≠ gb145) (.slice A0_5 l0_5.length c0_5) l0_5) ∧ Asd (w'.heap[gb144]? = some (.cells #[.int .i64 a0_0, .int .i64 a0_1, .int .i64 a0_2, .int .i64 a0_3, .string a0_4, (.slice A0_5 l0_5.length c0_5)] 24 (0, 0))) ∧ Asd (w'.heap[gb145]? = some (.cells #[.int .i64 x146000_1, .int .i64 x146001_1, .int .i64 x146002_1, .int .i64 x146003_1, .string x146004_1, (.slice none 0 0)] 24 (0, 0))) ∧ Asd (Below w.heap.size w w'))
    case atStart => exact ⟨(([] : List Int)), (([] : List Int)), (0), (0), (0), (0), (0), ((⟨#[]⟩ : ByteArray)), (by first | rfl | (simp; done) | (simp [*]; done)), H', ⟨Nat.le_refl _⟩, ⟨by first | exact Kd.R_nil _ _ _ _ _ | exact Kd.N_nil _ _ _ _ _ | exact Kd.V_nil _ _ _ _ _ | exact Kd.Q_nil _ _ _ _ _ | exact Kd.S_nil _ _ _ _ _⟩, ⟨by first | exact Kd.R_nil _ _ _ _ _ | exact Kd.N_nil _ _ _ _ _ | exact Kd.V_nil _ _ _ _ _ | exact Kd.Q_nil _ _ _ _ _ | exact Kd.S_nil _ _ _ _ _⟩, ⟨by (with_reducible repeat (first | apply Kd.V_alloc | apply Kd.V_drewN | apply Kd.V_drew)); exact Kd.V_mono HO0_5.out (fun _ hk => ⟨hk.1.1, ⟨(by simp [Value.ownBlock]), ⟨(by simp [Value.ownBlock]), ⟨hk.1.2, hk.2⟩⟩⟩⟩)⟩, ⟨by (with_reducible repeat (first | apply Kd.V_alloc | apply Kd.V_drewN | apply Kd.V_drew)); exact Kd.V_mono HO0_5.out (fun _ hk => ⟨hk.1.1, ⟨(by simp [Value.ownBlock]), ⟨(by simp [Value.ownBlock]), ⟨hk.1.2, hk.2⟩⟩⟩⟩)⟩, ⟨by (with_reducible repeat (first | refine bDN ?_ _ | refine bDr ?_ | refine bAl ?_ _)); exact BK144.out⟩, ⟨by (with_reducible repeat (first | refine bDN ?_ _ | refine bDr ?_ | refine bAl ?_ _)); exact BK145.out⟩, ⟨by repeat (first | (with_reducible first | exact HB.out | apply wAl | apply pDN | apply wDr | refine wSt ?_ GE144.out | refine wSt ?_ GE145.out) | exact HB.out)⟩⟩
    case round =>
      clear H'
      try clear c2
      try clear c2b0
      try clear c2b1
      try clear p2
      try clear c4
      try clear c5
      try clear hcz6_0
      try clear hcz6_1
      try clear hcz6_2
      try clear hcz6_3
      try clear hcz6_4
      try clear hcz6_5
      try clear hfz6_0
      try clear hfz6_1
      try clear hfz6_2
      try clear hfz6_3
      try clear hfz6_4
      try clear hfz6_5
      obtain ⟨x4_1, x5_1, x19_1, x146000_1, x146001_1, x146002_1, x146003_1, x146004_1, rfl, HA, HK1, HO_4, HO_5, HO_17, HO_145005, BK144, BK145, HB⟩ := hrel
      cases gk with
      | zero => exact absurd HA.out (by simp [sCo.l0])
      | succ k1 =>
        have H := HA.out
        clear HA
        simp only [sCo.l0] at H
        by_cases c7 : x19_1 < (l0_5.length : Int)
        · rw [if_pos c7] at H
          have c7b0 : decide (x19_1 < (l0_5.length : Int)) = true := decide_eq_true c7
          clear c7
          by_cases c8 : 0 ≤ x19_1
          · rw [if_pos c8] at H
            have c8b0 : decide (0 ≤ x19_1) = true := decide_eq_true c8
            clear c8
            by_cases c9 : x19_1 < (l0_5.length : Int)
            · rw [if_pos c9] at H
              have c9b0 : decide (x19_1 < (l0_5.length : Int)) = true := decide_eq_true c9
              clear c9
              by_cases c10 : ((rd_T24 l0_5 x19_1).f0) = 1
              · rw [if_pos c10] at H
                have c10b0 : (((rd_T24 l0_5 x19_1).f0) == 1) = true := beq_iff_eq.mpr c10
                have c10b1 : (((rd_T24 l0_5 x19_1).f0) != 1) = false := bne_eq_false_iff_eq.mpr c10
                clear c10
                obtain ⟨y148, hy148⟩ : ∃ y_ : List Int, y_ = (([(rd_T24 l0_5 x19_1).f2] : List Int)) := ⟨_, rfl⟩
                replace H : (if x4_1.length + y148.length < 17592186044416 then ((some (([(rd_T24 l0_5 x19_1).f3] : List Int) : List Int)).bind fun y154 => (if x5_1.length + y154.length < 17592186044416 then (sCo.l0 k1 (x4_1 ++ y148) (x5_1 ++ y154) l0_5 (l0_5.length : Int) (wrap64 (x19_1 + 1)) a0_0 a0_1 a0_2 a0_3 a0_4 l0_5) else (none))) else (none)) = some (r1, r2, r3, r4, r5, r6, r7) := by first | (rw [hy148]; with_reducible exact H) | (have H2_ := (Option.bind_some _ _).symm.trans H; rw [hy148]; with_reducible exact H2_) | (have H2_ := (Option.bind_some _ _).symm.trans H; with_reducible exact H2_) | with_reducible exact H | (rw [hy148]; exact H) | exact H
                have Ny148 := Asd.mk hy148
                clear hy148
                by_cases c11 : x4_1.length + y148.length < 17592186044416
                · rw [if_pos c11] at H
                  have LMc11 := Asd.mk c11
                  clear c11
                  obtain ⟨y151, hy151⟩ : ∃ y_ : List Int, y_ = (x4_1 ++ y148) := ⟨_, rfl⟩
                  replace H : ((some (([(rd_T24 l0_5 x19_1).f3] : List Int) : List Int)).bind fun y154 => (if x5_1.length + y154.length < 17592186044416 then (sCo.l0 k1 y151 (x5_1 ++ y154) l0_5 (l0_5.length : Int) (wrap64 (x19_1 + 1)) a0_0 a0_1 a0_2 a0_3 a0_4 l0_5) else (none))) = some (r1, r2, r3, r4, r5, r6, r7) := by first | (rw [hy151]; with_reducible exact H) | (have H2_ := (Option.bind_some _ _).symm.trans H; rw [hy151]; with_reducible exact H2_) | (have H2_ := (Option.bind_some _ _).symm.trans H; with_reducible exact H2_) | with_reducible exact H | (rw [hy151]; exact H) | exact H
                  have Ny151 := Asd.mk hy151
                  clear hy151
                  obtain ⟨y154, hy154⟩ : ∃ y_ : List Int, y_ = (([(rd_T24 l0_5 x19_1).f3] : List Int)) := ⟨_, rfl⟩
                  replace H : (if x5_1.length + y154.length < 17592186044416 then (sCo.l0 k1 y151 (x5_1 ++ y154) l0_5 (l0_5.length : Int) (wrap64 (x19_1 + 1)) a0_0 a0_1 a0_2 a0_3 a0_4 l0_5) else (none)) = some (r1, r2, r3, r4, r5, r6, r7) := by first | (rw [hy154]; with_reducible exact H) | (have H2_ := (Option.bind_some _ _).symm.trans H; rw [hy154]; with_reducible exact H2_) | (have H2_ := (Option.bind_some _ _).symm.trans H; with_reducible exact H2_) | with_reducible exact H | (rw [hy154]; exact H) | exact H
                  have Ny154 := Asd.mk hy154
                  clear hy154
                  by_cases c12 : x5_1.length + y154.length < 17592186044416
                  · rw [if_pos c12] at H
                    have LMc12 := Asd.mk c12
                    clear c12
                    obtain ⟨y157, hy157⟩ : ∃ y_ : List Int, y_ = (x5_1 ++ y154) := ⟨_, rfl⟩
                    replace H : (sCo.l0 k1 y151 y157 l0_5 (l0_5.length : Int) (wrap64 (x19_1 + 1)) a0_0 a0_1 a0_2 a0_3 a0_4 l0_5) = some (r1, r2, r3, r4, r5, r6, r7) := by first | (rw [hy157]; with_reducible exact H) | (have H2_ := (Option.bind_some _ _).symm.trans H; rw [hy157]; with_reducible exact H2_) | (have H2_ := (Option.bind_some _ _).symm.trans H; with_reducible exact H2_) | with_reducible exact H | (rw [hy157]; exact H) | exact H
                    have Ny157 := Asd.mk hy157
                    clear hy157
                    have H' := Asd.mk H
                    clear H
                    have p146 : 0 ≤ (x19_1 : Int) := of_decide_eq_true (by first | (with_reducible assumption) | assumption)
                    have q146 : x19_1 < (l0_5.length : Int) := of_decide_eq_true (by first | (with_reducible assumption) | assumption)
                    obtain ⟨ad146, A146_5, c146_5, e146, hx146_0, hx146_1, hx146_2, hx146_3, hx146_4, hx146_5, hl146_5, hi146_5⟩ := at_T24 (Kd.V_reads' HO_17.out).2.2 x19_1 p146 q146
                    cases e146
                    obtain ⟨ce146, hce146, hMe146, hcc146⟩ := Kd.V_get HO_17.out z24 x19_1 p146 (by first | exact q146 | exact of_decide_eq_true (by first | (with_reducible assumption) | assumption) | (have e_ := (Kd.V_reads' HO_17.out).1; omega))
                    obtain ⟨ua146_5, uc146_5, rfl, ul146_5, ge146_5⟩ := k24_openF hMe146
                    have hv146_5 := hcc146 5 _ rfl
                    rw [add_field _ _ 5 (by omega)] at hv146_5
                    replace hv146_5 := Option.some.inj (hv146_5.symm.trans hx146_5)
                    injection hv146_5 with hva_ hvn_ hvc_
                    rw [hva_] at ge146_5
                    rw [hvc_] at ul146_5
                    have HL146_5 := Asd.mk (show Kd.V k24 24 _ w.heap.size _ _ ((rd_T24 l0_5 x19_1).f5) from Kd.V_mk ul146_5 ge146_5)
                    clear hva_ hvn_ hvc_ ge146_5 ul146_5
                    clear hcc146 hce146
                    have HR146_5 := Asd.mk hi146_5
                    have HC146_5 := Asd.mk hl146_5
                    clear hi146_5 hl146_5
                    replace p146 := eq_true p146
                    replace q146 := eq_true q146
                    try go_wp2_with (first | ((with_reducible refine gate_dst (N := 7) rfl ?_); refine box_event ?hg (N := 7) ?hd (cs := #[.int .i64 0, .int .i64 0, .int .i64 0, .int .i64 0, .string (⟨#[]⟩ : ByteArray), .slice none 0 0]) (t := 24) ?hr ?_; (case hd => rfl); (case hg => rfl); (case hr => first | (go_simp; done) | (go_simp; rfl)); intro gb147 hg w13 hbox hb; have n0_ := Asd.mk (Kd.R_below (by (with_reducible repeat (first | apply Kd.R_alloc | apply Kd.R_drewN | apply Kd.R_drew)); exact HO_4.out) hb); have n1_ := Asd.mk (Kd.R_below (by (with_reducible repeat (first | apply Kd.R_alloc | apply Kd.R_drewN | apply Kd.R_drew)); exact HO_5.out) hb); have n2_ := Asd.mk (Kd.V_below (Kd.V_elderB (by (with_reducible repeat (first | apply Kd.V_alloc | apply Kd.V_drewN | apply Kd.V_drew)); exact HO_17.out) gb147 (Nat.le_of_eq hg.symm)) hb); have n3_ := Asd.mk (Kd.V_below (Kd.V_elderB (by (with_reducible repeat (first | apply Kd.V_alloc | apply Kd.V_drewN | apply Kd.V_drew)); exact HO_145005.out) gb147 (Nat.le_of_eq hg.symm)) hb); have n4_ := Asd.mk (Kd.V_below (Kd.V_elderB (by (with_reducible repeat (first | apply Kd.V_alloc | apply Kd.V_drewN | apply Kd.V_drew)); exact HL146_5.out) gb147 (Nat.le_of_eq hg.symm)) hb); have n5_ := Asd.mk (blk_below (g := gb144) (o := .cells #[.int .i64 a0_0, .int .i64 a0_1, .int .i64 a0_2, .int .i64 a0_3, .string a0_4, .slice (some ad146) l0_5.length c0_5] 24 (0, 0)) (by (with_reducible repeat (first | refine bDN ?_ _ | refine bDr ?_ | refine bAl ?_ _)); exact BK144.out) hb); have n6_ := Asd.mk (blk_below (g := gb145) (o := .cells #[.int .i64 x146000_1, .int .i64 x146001_1, .int .i64 x146002_1, .int .i64 x146003_1, .string x146004_1, .slice none 0 0] 24 (0, 0)) (by (with_reducible repeat (first | refine bDN ?_ _ | refine bDr ?_ | refine bAl ?_ _)); exact BK145.out) hb); have n7_ := Asd.mk (Kd.C_below (by repeat (first | (with_reducible exact HR146_5.out) | (with_reducible refine Kd.C_alloc ?_ _) | (with_reducible refine Kd.C_drewN ?_ _) | (with_reducible refine Kd.C_drew ?_) | exact HR146_5.out)) hb); have n8_ := Asd.mk (wSp (by repeat (first | (with_reducible first | exact HB.out | apply wAl | apply pDN | apply wDr | refine wSt ?_ GE144.out | refine wSt ?_ GE145.out) | exact HB.out)) hb); have n9_ := Asd.mk (hbox); have n10_ := Asd.mk ((by rw [hg]; exact (wSz (by repeat (first | (with_reducible first | exact HB.out | apply wAl | apply pDN | apply wDr | refine wSt ?_ GE144.out | refine wSt ?_ GE145.out) | exact HB.out))) : w.heap.size ≤ gb147)); have n11_ := Asd.mk ((by rw [hg]; exact (wSz (by repeat (first | (with_reducible first | exact HB.out | apply wAl | apply pDN | apply wDr | refine wSt ?_ GE144.out | refine wSt ?_ GE145.out) | exact HB.out))) : w.heap.size ≤ gb147)); have n12_ := Asd.mk ((by rw [hg]; exact Nat.ne_of_lt (blk_lt (g := gb144) (o := .cells #[.int .i64 a0_0, .int .i64 a0_1, .int .i64 a0_2, .int .i64 a0_3, .string a0_4, .slice (some ad146) l0_5.length c0_5] 24 (0, 0)) (by (with_reducible repeat (first | refine bDN ?_ _ | refine bDr ?_ | refine bAl ?_ _)); exact BK144.out)) : gb144 ≠ gb147)); have n13_ := Asd.mk ((by rw [hg]; exact Nat.ne_of_gt (blk_lt (g := gb144) (o := .cells #[.int .i64 a0_0, .int .i64 a0_1, .int .i64 a0_2, .int .i64 a0_3, .string a0_4, .slice (some ad146) l0_5.length c0_5] 24 (0, 0)) (by (with_reducible repeat (first | refine bDN ?_ _ | refine bDr ?_ | refine bAl ?_ _)); exact BK144.out)) : gb147 ≠ gb144)); have n14_ := Asd.mk ((by rw [hg]; exact Nat.ne_of_lt (blk_lt (g := gb145) (o := .cells #[.int .i64 x146000_1, .int .i64 x146001_1, .int .i64 x146002_1, .int .i64 x146003_1, .string x146004_1, .slice none 0 0] 24 (0, 0)) (by (with_reducible repeat (first | refine bDN ?_ _ | refine bDr ?_ | refine bAl ?_ _)); exact BK145.out)) : gb145 ≠ gb147)); have n15_ := Asd.mk ((by rw [hg]; exact Nat.ne_of_gt (blk_lt (g := gb145) (o := .cells #[.int .i64 x146000_1, .int .i64 x146001_1, .int .i64 x146002_1, .int .i64 x146003_1, .string x146004_1, .slice none 0 0] 24 (0, 0)) (by (with_reducible repeat (first | refine bDN ?_ _ | refine bDr ?_ | refine bAl ?_ _)); exact BK145.out)) : gb147 ≠ gb145)); clear HO_4; clear HO_5; clear HO_17; clear HO_145005; clear HL146_5; clear BK144; clear BK145; clear HR146_5; clear HB; have HO_4 := n0_; have HO_5 := n1_; have HO_17 := n2_; have HO_145005 := n3_; have HL146_5 := n4_; have BK144 := n5_; have BK145 := n6_; have HR146_5 := n7_; have HB := n8_; have BK147 := n9_; have GW147 := n10_; have GE147 := n11_; have NB144_147 := n12_; have NB147_144 := n13_; have NB145_147 := n14_; have NB147_145 := n15_; clear n0_ n1_ n2_ n3_ n4_ n5_ n6_ n7_ n8_ n9_ n10_ n11_ n12_ n13_ n14_ n15_; clear hb hbox hg; have hnb14 := NB147_144.out; have hnc14 := NB144_147.out; have hnb15 := NB147_145.out; have hnc15 := NB145_147.out; have hcz16_0 : w13.cell? ⟨gb147, 0, none⟩ = some (.int .i64 0) := (bCl BK147.out 0).trans rfl; have hcz16_1 : w13.cell? ⟨gb147, 1, none⟩ = some (.int .i64 0) := (bCl BK147.out 1).trans rfl; have hcz16_2 : w13.cell? ⟨gb147, 2, none⟩ = some (.int .i64 0) := (bCl BK147.out 2).trans rfl; have hcz16_3 : w13.cell? ⟨gb147, 3, none⟩ = some (.int .i64 0) := (bCl BK147.out 3).trans rfl; have hcz16_4 : w13.cell? ⟨gb147, 4, none⟩ = some (.string (⟨#[]⟩ : ByteArray)) := (bCl BK147.out 4).trans rfl; have hcz16_5 : w13.cell? ⟨gb147, 5, none⟩ = some (.slice none 0 0) := (bCl BK147.out 5).trans rfl; have hfz16_0 := bFz BK147.out 0; have hfz16_1 := bFz BK147.out 1; have hfz16_2 := bFz BK147.out 2; have hfz16_3 := bFz BK147.out 3; have hfz16_4 := bFz BK147.out 4; have hfz16_5 := bFz BK147.out 5; obtain ⟨Ao17, co17, eo17⟩ := Kd.R_slice HO_4.out; subst eo17; obtain ⟨Ao18, co18, eo18⟩ := Kd.R_slice HO_5.out; subst eo18))
                    have n0_ : Asd (Kd.R (Kd.int .i64) 3 ((((((w13.setCell ⟨gb147, 0, none⟩ (.int .i64 ((rd_T24 l0_5 x19_1).f0))).setCell ⟨gb147, 1, none⟩ (.int .i64 ((rd_T24 l0_5 x19_1).f1))).setCell ⟨gb147, 2, none⟩ (.int .i64 ((rd_T24 l0_5 x19_1).f2))).setCell ⟨gb147, 3, none⟩ (.int .i64 ((rd_T24 l0_5 x19_1).f3))).setCell ⟨gb147, 4, none⟩ (.string ((rd_T24 l0_5 x19_1).f4))).setCell ⟨gb147, 5, none⟩ (.slice A146_5 ((rd_T24 l0_5 x19_1).f5).length c146_5)) w.heap.size (fun k_ => (w.heap.size ≤ k_) ∧ some k_ ≠ (.slice Ao18 x5_1.length co18 : Value).ownBlock) (.slice Ao17 x4_1.length co17) x4_1) := ⟨by (with_reducible repeat (first | apply Kd.R_alloc | apply Kd.R_drewN | apply Kd.R_drew)); exact Kd.R_mono (Kd.R_far (p := ⟨gb147, 5, none⟩) (Kd.R_far (p := ⟨gb147, 4, none⟩) (Kd.R_far (p := ⟨gb147, 3, none⟩) (Kd.R_far (p := ⟨gb147, 2, none⟩) (Kd.R_far (p := ⟨gb147, 1, none⟩) (Kd.R_far (p := ⟨gb147, 0, none⟩) (Kd.R_types HO_4.out BK147.out (by decide)) (fun _ hk => hk.2) (.int .i64 ((rd_T24 l0_5 x19_1).f0))) (fun _ hk => hk.2) (.int .i64 ((rd_T24 l0_5 x19_1).f1))) (fun _ hk => hk.2) (.int .i64 ((rd_T24 l0_5 x19_1).f2))) (fun _ hk => hk.2) (.int .i64 ((rd_T24 l0_5 x19_1).f3))) (fun _ hk => hk.2) (.string ((rd_T24 l0_5 x19_1).f4))) (fun _ hk => hk.2) (.slice A146_5 ((rd_T24 l0_5 x19_1).f5).length c146_5)) (fun _ hk => ⟨hk.1.1, hk.1.2⟩)⟩
                    have n1_ : Asd (Kd.R (Kd.int .i64) 3 ((((((w13.setCell ⟨gb147, 0, none⟩ (.int .i64 ((rd_T24 l0_5 x19_1).f0))).setCell ⟨gb147, 1, none⟩ (.int .i64 ((rd_T24 l0_5 x19_1).f1))).setCell ⟨gb147, 2, none⟩ (.int .i64 ((rd_T24 l0_5 x19_1).f2))).setCell ⟨gb147, 3, none⟩ (.int .i64 ((rd_T24 l0_5 x19_1).f3))).setCell ⟨gb147, 4, none⟩ (.string ((rd_T24 l0_5 x19_1).f4))).setCell ⟨gb147, 5, none⟩ (.slice A146_5 ((rd_T24 l0_5 x19_1).f5).length c146_5)) w.heap.size (fun k_ => (w.heap.size ≤ k_) ∧ some k_ ≠ (.slice Ao17 x4_1.length co17 : Value).ownBlock) (.slice Ao18 x5_1.length co18) x5_1) := ⟨by (with_reducible repeat (first | apply Kd.R_alloc | apply Kd.R_drewN | apply Kd.R_drew)); exact Kd.R_mono (Kd.R_far (p := ⟨gb147, 5, none⟩) (Kd.R_far (p := ⟨gb147, 4, none⟩) (Kd.R_far (p := ⟨gb147, 3, none⟩) (Kd.R_far (p := ⟨gb147, 2, none⟩) (Kd.R_far (p := ⟨gb147, 1, none⟩) (Kd.R_far (p := ⟨gb147, 0, none⟩) (Kd.R_types HO_5.out BK147.out (by decide)) (fun _ hk => hk.2) (.int .i64 ((rd_T24 l0_5 x19_1).f0))) (fun _ hk => hk.2) (.int .i64 ((rd_T24 l0_5 x19_1).f1))) (fun _ hk => hk.2) (.int .i64 ((rd_T24 l0_5 x19_1).f2))) (fun _ hk => hk.2) (.int .i64 ((rd_T24 l0_5 x19_1).f3))) (fun _ hk => hk.2) (.string ((rd_T24 l0_5 x19_1).f4))) (fun _ hk => hk.2) (.slice A146_5 ((rd_T24 l0_5 x19_1).f5).length c146_5)) (fun _ hk => ⟨hk.1.1, hk.1.2⟩)⟩
                    have n2_ : Asd (Kd.V k24 24 ((((((w13.setCell ⟨gb147, 0, none⟩ (.int .i64 ((rd_T24 l0_5 x19_1).f0))).setCell ⟨gb147, 1, none⟩ (.int .i64 ((rd_T24 l0_5 x19_1).f1))).setCell ⟨gb147, 2, none⟩ (.int .i64 ((rd_T24 l0_5 x19_1).f2))).setCell ⟨gb147, 3, none⟩ (.int .i64 ((rd_T24 l0_5 x19_1).f3))).setCell ⟨gb147, 4, none⟩ (.string ((rd_T24 l0_5 x19_1).f4))).setCell ⟨gb147, 5, none⟩ (.slice A146_5 ((rd_T24 l0_5 x19_1).f5).length c146_5)) w.heap.size (fun k_ => (P0_5_ k_ ∨ w.heap.size ≤ k_) ∧ some k_ ≠ (.slice Ao17 x4_1.length co17 : Value).ownBlock ∧ some k_ ≠ (.slice Ao18 x5_1.length co18 : Value).ownBlock ∧ k_ ≠ gb144 ∧ k_ ≠ gb145 ∧ k_ ≠ gb147) (.slice (some ad146) l0_5.length c0_5) l0_5) := ⟨by (with_reducible repeat (first | apply Kd.V_alloc | apply Kd.V_drewN | apply Kd.V_drew)); exact Kd.V_mono (Kd.V_far (p := ⟨gb147, 5, none⟩) (Kd.V_far (p := ⟨gb147, 4, none⟩) (Kd.V_far (p := ⟨gb147, 3, none⟩) (Kd.V_far (p := ⟨gb147, 2, none⟩) (Kd.V_far (p := ⟨gb147, 1, none⟩) (Kd.V_far (p := ⟨gb147, 0, none⟩) (Kd.V_mono HO_17.out (fun k_ hk => (⟨hk, hk.2⟩ : _ ∧ k_ ≠ gb147))) (fun _ hk => hk.2) (.int .i64 ((rd_T24 l0_5 x19_1).f0))) (fun _ hk => hk.2) (.int .i64 ((rd_T24 l0_5 x19_1).f1))) (fun _ hk => hk.2) (.int .i64 ((rd_T24 l0_5 x19_1).f2))) (fun _ hk => hk.2) (.int .i64 ((rd_T24 l0_5 x19_1).f3))) (fun _ hk => hk.2) (.string ((rd_T24 l0_5 x19_1).f4))) (fun _ hk => hk.2) (.slice A146_5 ((rd_T24 l0_5 x19_1).f5).length c146_5)) (fun _ hk => ⟨hk.1.1.1, ⟨hk.1.1.2.1, ⟨hk.1.1.2.2.1, ⟨hk.1.1.2.2.2.1, ⟨hk.1.1.2.2.2.2, hk.1.2⟩⟩⟩⟩⟩)⟩
                    have n3_ : Asd (Kd.V k24 24 ((((((w13.setCell ⟨gb147, 0, none⟩ (.int .i64 ((rd_T24 l0_5 x19_1).f0))).setCell ⟨gb147, 1, none⟩ (.int .i64 ((rd_T24 l0_5 x19_1).f1))).setCell ⟨gb147, 2, none⟩ (.int .i64 ((rd_T24 l0_5 x19_1).f2))).setCell ⟨gb147, 3, none⟩ (.int .i64 ((rd_T24 l0_5 x19_1).f3))).setCell ⟨gb147, 4, none⟩ (.string ((rd_T24 l0_5 x19_1).f4))).setCell ⟨gb147, 5, none⟩ (.slice A146_5 ((rd_T24 l0_5 x19_1).f5).length c146_5)) w.heap.size (fun k_ => (P0_5_ k_ ∨ w.heap.size ≤ k_) ∧ some k_ ≠ (.slice Ao17 x4_1.length co17 : Value).ownBlock ∧ some k_ ≠ (.slice Ao18 x5_1.length co18 : Value).ownBlock ∧ k_ ≠ gb144 ∧ k_ ≠ gb145 ∧ k_ ≠ gb147) (.slice (some ad146) l0_5.length c0_5) l0_5) := ⟨by (with_reducible repeat (first | apply Kd.V_alloc | apply Kd.V_drewN | apply Kd.V_drew)); exact Kd.V_mono (Kd.V_far (p := ⟨gb147, 5, none⟩) (Kd.V_far (p := ⟨gb147, 4, none⟩) (Kd.V_far (p := ⟨gb147, 3, none⟩) (Kd.V_far (p := ⟨gb147, 2, none⟩) (Kd.V_far (p := ⟨gb147, 1, none⟩) (Kd.V_far (p := ⟨gb147, 0, none⟩) (Kd.V_mono HO_145005.out (fun k_ hk => (⟨hk, hk.2⟩ : _ ∧ k_ ≠ gb147))) (fun _ hk => hk.2) (.int .i64 ((rd_T24 l0_5 x19_1).f0))) (fun _ hk => hk.2) (.int .i64 ((rd_T24 l0_5 x19_1).f1))) (fun _ hk => hk.2) (.int .i64 ((rd_T24 l0_5 x19_1).f2))) (fun _ hk => hk.2) (.int .i64 ((rd_T24 l0_5 x19_1).f3))) (fun _ hk => hk.2) (.string ((rd_T24 l0_5 x19_1).f4))) (fun _ hk => hk.2) (.slice A146_5 ((rd_T24 l0_5 x19_1).f5).length c146_5)) (fun _ hk => ⟨hk.1.1.1, ⟨hk.1.1.2.1, ⟨hk.1.1.2.2.1, ⟨hk.1.1.2.2.2.1, ⟨hk.1.1.2.2.2.2, hk.1.2⟩⟩⟩⟩⟩)⟩
                    have n4_ : Asd (Kd.V k24 24 ((((((w13.setCell ⟨gb147, 0, none⟩ (.int .i64 ((rd_T24 l0_5 x19_1).f0))).setCell ⟨gb147, 1, none⟩ (.int .i64 ((rd_T24 l0_5 x19_1).f1))).setCell ⟨gb147, 2, none⟩ (.int .i64 ((rd_T24 l0_5 x19_1).f2))).setCell ⟨gb147, 3, none⟩ (.int .i64 ((rd_T24 l0_5 x19_1).f3))).setCell ⟨gb147, 4, none⟩ (.string ((rd_T24 l0_5 x19_1).f4))).setCell ⟨gb147, 5, none⟩ (.slice A146_5 ((rd_T24 l0_5 x19_1).f5).length c146_5)) w.heap.size (fun k_ => (P0_5_ k_ ∨ w.heap.size ≤ k_) ∧ some k_ ≠ (.slice Ao17 x4_1.length co17 : Value).ownBlock ∧ some k_ ≠ (.slice Ao18 x5_1.length co18 : Value).ownBlock ∧ k_ ≠ gb144 ∧ k_ ≠ gb145 ∧ k_ ≠ gb147) (.slice A146_5 ((rd_T24 l0_5 x19_1).f5).length c146_5) ((rd_T24 l0_5 x19_1).f5)) := ⟨by (with_reducible repeat (first | apply Kd.V_alloc | apply Kd.V_drewN | apply Kd.V_drew)); exact Kd.V_mono (Kd.V_far (p := ⟨gb147, 5, none⟩) (Kd.V_far (p := ⟨gb147, 4, none⟩) (Kd.V_far (p := ⟨gb147, 3, none⟩) (Kd.V_far (p := ⟨gb147, 2, none⟩) (Kd.V_far (p := ⟨gb147, 1, none⟩) (Kd.V_far (p := ⟨gb147, 0, none⟩) (Kd.V_mono HL146_5.out (fun k_ hk => (⟨hk, hk.2⟩ : _ ∧ k_ ≠ gb147))) (fun _ hk => hk.2) (.int .i64 ((rd_T24 l0_5 x19_1).f0))) (fun _ hk => hk.2) (.int .i64 ((rd_T24 l0_5 x19_1).f1))) (fun _ hk => hk.2) (.int .i64 ((rd_T24 l0_5 x19_1).f2))) (fun _ hk => hk.2) (.int .i64 ((rd_T24 l0_5 x19_1).f3))) (fun _ hk => hk.2) (.string ((rd_T24 l0_5 x19_1).f4))) (fun _ hk => hk.2) (.slice A146_5 ((rd_T24 l0_5 x19_1).f5).length c146_5)) (fun _ hk => ⟨hk.1.1.1, ⟨hk.1.1.2.1, ⟨hk.1.1.2.2.1, ⟨hk.1.1.2.2.2.1, ⟨hk.1.1.2.2.2.2, hk.1.2⟩⟩⟩⟩⟩)⟩
                    have n5_ : Asd (((((((w13.setCell ⟨gb147, 0, none⟩ (.int .i64 ((rd_T24 l0_5 x19_1).f0))).setCell ⟨gb147, 1, none⟩ (.int .i64 ((rd_T24 l0_5 x19_1).f1))).setCell ⟨gb147, 2, none⟩ (.int .i64 ((rd_T24 l0_5 x19_1).f2))).setCell ⟨gb147, 3, none⟩ (.int .i64 ((rd_T24 l0_5 x19_1).f3))).setCell ⟨gb147, 4, none⟩ (.string ((rd_T24 l0_5 x19_1).f4))).setCell ⟨gb147, 5, none⟩ (.slice A146_5 ((rd_T24 l0_5 x19_1).f5).length c146_5)).heap[gb144]? = some (.cells #[.int .i64 a0_0, .int .i64 a0_1, .int .i64 a0_2, .int .i64 a0_3, .string a0_4, .slice (some ad146) l0_5.length c0_5] 24 (0, 0))) := ⟨by (with_reducible repeat (first | refine bDN ?_ _ | refine bDr ?_ | refine bAl ?_ _)); refine blk_far ?_ NB144_147.out _; (with_reducible repeat (first | refine bDN ?_ _ | refine bDr ?_ | refine bAl ?_ _)); refine blk_far ?_ NB144_147.out _; (with_reducible repeat (first | refine bDN ?_ _ | refine bDr ?_ | refine bAl ?_ _)); refine blk_far ?_ NB144_147.out _; (with_reducible repeat (first | refine bDN ?_ _ | refine bDr ?_ | refine bAl ?_ _)); refine blk_far ?_ NB144_147.out _; (with_reducible repeat (first | refine bDN ?_ _ | refine bDr ?_ | refine bAl ?_ _)); refine blk_far ?_ NB144_147.out _; (with_reducible repeat (first | refine bDN ?_ _ | refine bDr ?_ | refine bAl ?_ _)); refine blk_far ?_ NB144_147.out _; (with_reducible repeat (first | refine bDN ?_ _ | refine bDr ?_ | refine bAl ?_ _)); exact BK144.out⟩
                    have n6_ : Asd (((((((w13.setCell ⟨gb147, 0, none⟩ (.int .i64 ((rd_T24 l0_5 x19_1).f0))).setCell ⟨gb147, 1, none⟩ (.int .i64 ((rd_T24 l0_5 x19_1).f1))).setCell ⟨gb147, 2, none⟩ (.int .i64 ((rd_T24 l0_5 x19_1).f2))).setCell ⟨gb147, 3, none⟩ (.int .i64 ((rd_T24 l0_5 x19_1).f3))).setCell ⟨gb147, 4, none⟩ (.string ((rd_T24 l0_5 x19_1).f4))).setCell ⟨gb147, 5, none⟩ (.slice A146_5 ((rd_T24 l0_5 x19_1).f5).length c146_5)).heap[gb145]? = some (.cells #[.int .i64 x146000_1, .int .i64 x146001_1, .int .i64 x146002_1, .int .i64 x146003_1, .string x146004_1, .slice none 0 0] 24 (0, 0))) := ⟨by (with_reducible repeat (first | refine bDN ?_ _ | refine bDr ?_ | refine bAl ?_ _)); refine blk_far ?_ NB145_147.out _; (with_reducible repeat (first | refine bDN ?_ _ | refine bDr ?_ | refine bAl ?_ _)); refine blk_far ?_ NB145_147.out _; (with_reducible repeat (first | refine bDN ?_ _ | refine bDr ?_ | refine bAl ?_ _)); refine blk_far ?_ NB145_147.out _; (with_reducible repeat (first | refine bDN ?_ _ | refine bDr ?_ | refine bAl ?_ _)); refine blk_far ?_ NB145_147.out _; (with_reducible repeat (first | refine bDN ?_ _ | refine bDr ?_ | refine bAl ?_ _)); refine blk_far ?_ NB145_147.out _; (with_reducible repeat (first | refine bDN ?_ _ | refine bDr ?_ | refine bAl ?_ _)); refine blk_far ?_ NB145_147.out _; (with_reducible repeat (first | refine bDN ?_ _ | refine bDr ?_ | refine bAl ?_ _)); exact BK145.out⟩
                    have n7_ : Asd (((((((w13.setCell ⟨gb147, 0, none⟩ (.int .i64 ((rd_T24 l0_5 x19_1).f0))).setCell ⟨gb147, 1, none⟩ (.int .i64 ((rd_T24 l0_5 x19_1).f1))).setCell ⟨gb147, 2, none⟩ (.int .i64 ((rd_T24 l0_5 x19_1).f2))).setCell ⟨gb147, 3, none⟩ (.int .i64 ((rd_T24 l0_5 x19_1).f3))).setCell ⟨gb147, 4, none⟩ (.string ((rd_T24 l0_5 x19_1).f4))).setCell ⟨gb147, 5, none⟩ (.slice A146_5 ((rd_T24 l0_5 x19_1).f5).length c146_5)).heap[gb147]? = some (.cells #[.int .i64 ((rd_T24 l0_5 x19_1).f0), .int .i64 ((rd_T24 l0_5 x19_1).f1), .int .i64 ((rd_T24 l0_5 x19_1).f2), .int .i64 ((rd_T24 l0_5 x19_1).f3), .string ((rd_T24 l0_5 x19_1).f4), .slice A146_5 ((rd_T24 l0_5 x19_1).f5).length c146_5] 24 (0, 0))) := ⟨by (with_reducible repeat (first | refine bDN ?_ _ | refine bDr ?_ | refine bAl ?_ _)); refine blk_put (cs := #[.int .i64 ((rd_T24 l0_5 x19_1).f0), .int .i64 ((rd_T24 l0_5 x19_1).f1), .int .i64 ((rd_T24 l0_5 x19_1).f2), .int .i64 ((rd_T24 l0_5 x19_1).f3), .string ((rd_T24 l0_5 x19_1).f4), .slice none 0 0]) ?_ 5 _ rfl; (with_reducible repeat (first | refine bDN ?_ _ | refine bDr ?_ | refine bAl ?_ _)); refine blk_put (cs := #[.int .i64 ((rd_T24 l0_5 x19_1).f0), .int .i64 ((rd_T24 l0_5 x19_1).f1), .int .i64 ((rd_T24 l0_5 x19_1).f2), .int .i64 ((rd_T24 l0_5 x19_1).f3), .string (⟨#[]⟩ : ByteArray), .slice none 0 0]) ?_ 4 _ rfl; (with_reducible repeat (first | refine bDN ?_ _ | refine bDr ?_ | refine bAl ?_ _)); refine blk_put (cs := #[.int .i64 ((rd_T24 l0_5 x19_1).f0), .int .i64 ((rd_T24 l0_5 x19_1).f1), .int .i64 ((rd_T24 l0_5 x19_1).f2), .int .i64 0, .string (⟨#[]⟩ : ByteArray), .slice none 0 0]) ?_ 3 _ rfl; (with_reducible repeat (first | refine bDN ?_ _ | refine bDr ?_ | refine bAl ?_ _)); refine blk_put (cs := #[.int .i64 ((rd_T24 l0_5 x19_1).f0), .int .i64 ((rd_T24 l0_5 x19_1).f1), .int .i64 0, .int .i64 0, .string (⟨#[]⟩ : ByteArray), .slice none 0 0]) ?_ 2 _ rfl; (with_reducible repeat (first | refine bDN ?_ _ | refine bDr ?_ | refine bAl ?_ _)); refine blk_put (cs := #[.int .i64 ((rd_T24 l0_5 x19_1).f0), .int .i64 0, .int .i64 0, .int .i64 0, .string (⟨#[]⟩ : ByteArray), .slice none 0 0]) ?_ 1 _ rfl; (with_reducible repeat (first | refine bDN ?_ _ | refine bDr ?_ | refine bAl ?_ _)); refine blk_put (cs := #[.int .i64 0, .int .i64 0, .int .i64 0, .int .i64 0, .string (⟨#[]⟩ : ByteArray), .slice none 0 0]) ?_ 0 _ rfl; (with_reducible repeat (first | refine bDN ?_ _ | refine bDr ?_ | refine bAl ?_ _)); exact BK147.out⟩
                    have n8_ : Asd (Below w.heap.size w ((((((w13.setCell ⟨gb147, 0, none⟩ (.int .i64 ((rd_T24 l0_5 x19_1).f0))).setCell ⟨gb147, 1, none⟩ (.int .i64 ((rd_T24 l0_5 x19_1).f1))).setCell ⟨gb147, 2, none⟩ (.int .i64 ((rd_T24 l0_5 x19_1).f2))).setCell ⟨gb147, 3, none⟩ (.int .i64 ((rd_T24 l0_5 x19_1).f3))).setCell ⟨gb147, 4, none⟩ (.string ((rd_T24 l0_5 x19_1).f4))).setCell ⟨gb147, 5, none⟩ (.slice A146_5 ((rd_T24 l0_5 x19_1).f5).length c146_5))) := ⟨by repeat (first | (with_reducible first | exact HB.out | apply wAl | apply pDN | apply wDr | refine wSt ?_ GE144.out | refine wSt ?_ GE145.out | refine wSt ?_ GE147.out) | exact HB.out)⟩
                    (try clear HO_4)
                    (try clear HO_5)
                    (try clear HO_17)
                    (try clear HO_145005)
                    (try clear HL146_5)
                    (try clear BK144)
                    (try clear BK145)
                    (try clear BK147)
                    (try clear HB)
                    generalize ((((((w13.setCell ⟨gb147, 0, none⟩ (.int .i64 ((rd_T24 l0_5 x19_1).f0))).setCell ⟨gb147, 1, none⟩ (.int .i64 ((rd_T24 l0_5 x19_1).f1))).setCell ⟨gb147, 2, none⟩ (.int .i64 ((rd_T24 l0_5 x19_1).f2))).setCell ⟨gb147, 3, none⟩ (.int .i64 ((rd_T24 l0_5 x19_1).f3))).setCell ⟨gb147, 4, none⟩ (.string ((rd_T24 l0_5 x19_1).f4))).setCell ⟨gb147, 5, none⟩ (.slice A146_5 ((rd_T24 l0_5 x19_1).f5).length c146_5)) = w19 at n0_ n1_ n2_ n3_ n4_ n5_ n6_ n7_ n8_ ⊢
                    have HO_4 := n0_
                    have HO_5 := n1_
                    have HO_17 := n2_
                    have HO_145005 := n3_
                    have HL146_5 := n4_
                    have BK144 := n5_
                    have BK145 := n6_
                    have BK147 := n7_
                    have HB := n8_
                    clear n0_ n1_ n2_ n3_ n4_ n5_ n6_ n7_ n8_
                    have n0_ := Asd.mk (Kd.R_drew HO_4.out)
                    have n1_ := Asd.mk (Kd.R_drew HO_5.out)
                    have n2_ := Asd.mk (Kd.V_drew HO_17.out)
                    have n3_ := Asd.mk (Kd.V_drew HO_145005.out)
                    have n4_ := Asd.mk (Kd.V_drew HL146_5.out)
                    have n5_ := Asd.mk (bDr BK144.out)
                    have n6_ := Asd.mk (bDr BK145.out)
                    have n7_ := Asd.mk (bDr BK147.out)
                    have n8_ := Asd.mk (wDr HB.out)
                    clear HO_4
                    clear HO_5
                    clear HO_17
                    clear HO_145005
                    clear HL146_5
                    clear BK144
                    clear BK145
                    clear BK147
                    clear HB
                    have HO_4 := n0_
                    have HO_5 := n1_
                    have HO_17 := n2_
                    have HO_145005 := n3_
                    have HL146_5 := n4_
                    have BK144 := n5_
                    have BK145 := n6_
                    have BK147 := n7_
                    have HB := n8_
                    clear n0_ n1_ n2_ n3_ n4_ n5_ n6_ n7_ n8_
                    refine start_ (n := 12) (S := fun w' => w'.cell? ⟨gb147, 0, none⟩ = some (.int .i64 ((rd_T24 l0_5 x19_1).f0)) ∧ w'.cell? ⟨gb147, 1, none⟩ = some (.int .i64 ((rd_T24 l0_5 x19_1).f1)) ∧ w'.cell? ⟨gb147, 2, none⟩ = some (.int .i64 ((rd_T24 l0_5 x19_1).f2)) ∧ w'.cell? ⟨gb147, 3, none⟩ = some (.int .i64 ((rd_T24 l0_5 x19_1).f3)) ∧ w'.cell? ⟨gb147, 4, none⟩ = some (.string ((rd_T24 l0_5 x19_1).f4)) ∧ w'.cell? ⟨gb147, 5, none⟩ = some (.slice A146_5 ((rd_T24 l0_5 x19_1).f5).length c146_5)) (ds := []) #[false, false, false, false, false, false, false, false, false, false, false, false] (by kernel_rfl) rfl rfl ⟨(bCl BK147.out 0).trans rfl, (bCl BK147.out 1).trans rfl, (bCl BK147.out 2).trans rfl, (bCl BK147.out 3).trans rfl, (bCl BK147.out 4).trans rfl, (bCl BK147.out 5).trans rfl⟩ (fun hHeld => ?_); refine with_tabW sCo.tab9 sCo.bits9 (fun HT_ HW_ => ?_)
                    generalize w19.drew = w20 at HO_4 HO_5 HO_17 HO_145005 HL146_5 BK144 BK145 BK147 HB hHeld ⊢
                    refine pure_ (i := 0) (N := some 27) (v := ?_) (a' := ?_) #[true, false, false, false, false, false, false, false, false, false, false, false] rfl rfl (any_of HT_.out (by kernel_rfl)) (fun _ _ _ h => h) (Or.inl ⟨by rfl, ?_⟩) ?_ ?_
                    rotate_left
                    · intro w'
                      go_simp
                      with_reducible rfl
                    rotate_left
                    · simp only [Act.put, List.setIfInBounds_toArray, List.set_cons_zero, List.set_cons_succ, i64_w, i32_w]
                      rfl
                    refine pure_ (i := 1) (N := some 28) (v := ?_) (a' := ?_) #[true, true, false, false, false, false, false, false, false, false, false, false] rfl rfl (any_of HT_.out (by kernel_rfl)) (fun _ _ _ h => h) (Or.inl ⟨by rfl, ?_⟩) ?_ ?_
                    rotate_left
                    · intro w'
                      go_simp
                      with_reducible rfl
                    rotate_left
                    · simp only [Act.put, List.setIfInBounds_toArray, List.set_cons_zero, List.set_cons_succ, i64_w, i32_w]
                      rfl
                    refine pure_ (i := 5) (N := some 32) (v := ?_) (a' := ?_) #[true, true, false, false, false, true, false, false, false, false, false, false] rfl rfl (any_of HT_.out (by kernel_rfl)) (fun _ _ _ h => h) (Or.inl ⟨by rfl, ?_⟩) ?_ ?_
                    rotate_left
                    · intro w'
                      go_simp
                      with_reducible rfl
                    rotate_left
                    · simp only [Act.put, List.setIfInBounds_toArray, List.set_cons_zero, List.set_cons_succ, i64_w, i32_w]
                      rfl
                    refine pure_ (i := 6) (N := some 33) (v := ?_) (a' := ?_) #[true, true, false, false, false, true, true, false, false, false, false, false] rfl rfl (any_of HT_.out (by kernel_rfl)) (fun _ _ _ h => h) (Or.inl ⟨by rfl, ?_⟩) ?_ ?_
                    rotate_left
                    · intro w'
                      go_simp
                      with_reducible rfl
                    rotate_left
                    · simp only [Act.put, List.setIfInBounds_toArray, List.set_cons_zero, List.set_cons_succ, i64_w, i32_w]
                      rfl
                    refine take_ (i := 2) (N := some 29) (v := ?_) (a' := ?_) #[true, true, true, false, false, true, true, false, false, false, false, false] rfl rfl (take_ofW HT_.out HW_.out (by kernel_rfl)) (fun _ _ _ h => h) (Or.inl ⟨by rfl, ?_⟩) hHeld ?_ ?_
                    rotate_left
                    · rintro w' ⟨s0, s1, s2, s3, s4, s5⟩
                      go_simp
                      with_reducible rfl
                    rotate_left
                    · simp only [Act.put, List.setIfInBounds_toArray, List.set_cons_zero, List.set_cons_succ, i64_w, i32_w]
                      rfl
                    refine take_ (i := 7) (N := some 34) (v := ?_) (a' := ?_) #[true, true, true, false, false, true, true, true, false, false, false, false] rfl rfl (take_ofW HT_.out HW_.out (by kernel_rfl)) (fun _ _ _ h => h) (Or.inl ⟨by rfl, ?_⟩) hHeld ?_ ?_
                    rotate_left
                    · rintro w' ⟨s0, s1, s2, s3, s4, s5⟩
                      go_simp
                      with_reducible rfl
                    rotate_left
                    · simp only [Act.put, List.setIfInBounds_toArray, List.set_cons_zero, List.set_cons_succ, i64_w, i32_w]
                      rfl
                    refine join_ (σ := Value × Value × Value) 3 #[true, true, true, true, true, true, true, true, true, false, false, false] (fun s_ => [(30, s_.1), (31, s_.2.1), (35, s_.2.2)]) (fun s_ w' => (w'.cell? ⟨gb147, 0, none⟩ = some (.int .i64 ((rd_T24 l0_5 x19_1).f0)) ∧ w'.cell? ⟨gb147, 1, none⟩ = some (.int .i64 ((rd_T24 l0_5 x19_1).f1)) ∧ w'.cell? ⟨gb147, 2, none⟩ = some (.int .i64 ((rd_T24 l0_5 x19_1).f2)) ∧ w'.cell? ⟨gb147, 3, none⟩ = some (.int .i64 ((rd_T24 l0_5 x19_1).f3)) ∧ w'.cell? ⟨gb147, 4, none⟩ = some (.string ((rd_T24 l0_5 x19_1).f4)) ∧ w'.cell? ⟨gb147, 5, none⟩ = some (.slice A146_5 ((rd_T24 l0_5 x19_1).f5).length c146_5)) ∧ (Kd.V k24 24 w' w.heap.size (fun k_ => (P0_5_ k_ ∨ w.heap.size ≤ k_) ∧ some k_ ≠ (s_.1 : Value).ownBlock ∧ some k_ ≠ (s_.2.1 : Value).ownBlock ∧ some k_ ≠ (s_.2.2 : Value).ownBlock ∧ some k_ ≠ (.slice Ao18 x5_1.length co18 : Value).ownBlock ∧ k_ ≠ gb144 ∧ k_ ≠ gb145 ∧ k_ ≠ gb147) (.slice A146_5 ((rd_T24 l0_5 x19_1).f5).length c146_5) ((rd_T24 l0_5 x19_1).f5)) ∧ (Kd.R (Kd.int .i64) 3 w' w.heap.size (fun k_ => (w.heap.size ≤ k_) ∧ some k_ ≠ (s_.2.1 : Value).ownBlock ∧ some k_ ≠ (s_.2.2 : Value).ownBlock ∧ some k_ ≠ (.slice Ao18 x5_1.length co18 : Value).ownBlock) s_.1 y148) ∧ (Kd.R (Kd.int .i64) 3 w' w.heap.size (fun k_ => (w.heap.size ≤ k_) ∧ some k_ ≠ (s_.1 : Value).ownBlock ∧ some k_ ≠ (s_.2.2 : Value).ownBlock ∧ some k_ ≠ (.slice Ao18 x5_1.length co18 : Value).ownBlock) s_.2.1 y151) ∧ (Kd.R (Kd.int .i64) 3 w' w.heap.size (fun k_ => (w.heap.size ≤ k_) ∧ some k_ ≠ (s_.1 : Value).ownBlock ∧ some k_ ≠ (s_.2.1 : Value).ownBlock ∧ some k_ ≠ (.slice Ao18 x5_1.length co18 : Value).ownBlock) s_.2.2 y154) ∧ (Kd.V k24 24 w' w.heap.size (fun k_ => (P0_5_ k_ ∨ w.heap.size ≤ k_) ∧ some k_ ≠ (s_.1 : Value).ownBlock ∧ some k_ ≠ (s_.2.1 : Value).ownBlock ∧ some k_ ≠ (s_.2.2 : Value).ownBlock ∧ some k_ ≠ (.slice Ao18 x5_1.length co18 : Value).ownBlock ∧ k_ ≠ gb144 ∧ k_ ≠ gb145 ∧ k_ ≠ gb147) (.slice (some ad146) l0_5.length c0_5) l0_5) ∧ (Kd.V k24 24 w' w.heap.size (fun k_ => (P0_5_ k_ ∨ w.heap.size ≤ k_) ∧ some k_ ≠ (s_.1 : Value).ownBlock ∧ some k_ ≠ (s_.2.1 : Value).ownBlock ∧ some k_ ≠ (s_.2.2 : Value).ownBlock ∧ some k_ ≠ (.slice Ao18 x5_1.length co18 : Value).ownBlock ∧ k_ ≠ gb144 ∧ k_ ≠ gb145 ∧ k_ ≠ gb147) (.slice (some ad146) l0_5.length c0_5) l0_5) ∧ (Kd.R (Kd.int .i64) 3 w' w.heap.size (fun k_ => (w.heap.size ≤ k_) ∧ some k_ ≠ (s_.1 : Value).ownBlock ∧ some k_ ≠ (s_.2.1 : Value).ownBlock ∧ some k_ ≠ (s_.2.2 : Value).ownBlock) (.slice Ao18 x5_1.length co18) x5_1) ∧ (w'.heap[gb144]? = some (.cells #[.int .i64 a0_0, .int .i64 a0_1, .int .i64 a0_2, .int .i64 a0_3, .string a0_4, .slice (some ad146) l0_5.length c0_5] 24 (0, 0))) ∧ (w'.heap[gb145]? = some (.cells #[.int .i64 x146000_1, .int .i64 x146001_1, .int .i64 x146002_1, .int .i64 x146003_1, .string x146004_1, .slice none 0 0] 24 (0, 0))) ∧ (w'.heap[gb147]? = some (.cells #[.int .i64 ((rd_T24 l0_5 x19_1).f0), .int .i64 ((rd_T24 l0_5 x19_1).f1), .int .i64 ((rd_T24 l0_5 x19_1).f2), .int .i64 ((rd_T24 l0_5 x19_1).f3), .string ((rd_T24 l0_5 x19_1).f4), .slice A146_5 ((rd_T24 l0_5 x19_1).f5).length c146_5] 24 (0, 0))) ∧ (Below w.heap.size w w')) ?_ ?_
                    rotate_left
                    · intro hCont
                      refine two_ (i := 3) (j := 8) (Ni := some 30) (Nj := some 35) #[true, true, true, true, false, true, true, true, false, false, false, false] #[true, true, true, false, false, true, true, true, true, false, false, false] rfl rfl rfl rfl (two_of HT_.out (by kernel_rfl)) (by decide) (by decide) (fun K hK => ?_) (fun K hK => ?_)
                      · skip
                        refine Kd.R_lit_step (Kd.int .i64) _ 3 ?hg (N := 30) ?hd (xs := ([(rd_T24 l0_5 x19_1).f2] : List Int)) (inner := [.int .i64 ((rd_T24 l0_5 x19_1).f2)]) (ok := fun _ => True) (okp := fun _ => True) ?hr ?hp (fun _ hk => hk) trivial (Below.refl _ _) (Nat.le_refl _) (by simp) ?_; (case hd => rfl); (case hg => rfl); (case hr => first | (go_simp; done) | (go_simp; rfl)); (case hp => exact (Reps.one (show Kd.M (Kd.int .i64) _ _ _ ((rd_T24 l0_5 x19_1).f2) [.int .i64 ((rd_T24 l0_5 x19_1).f2)] from rfl) (Reps.none _ _)))
                        intro v149 w21 ho22 hb hg_ hnew_
                        clear hg_ hnew_
                        (first | rw [← Ny148.out] at ho22 | (simp only [Int.reduceToNat] at ho22; rw [← Ny148.out] at ho22))
                        have n0_ := Asd.mk (Kd.R_elder' (by (with_reducible repeat (first | apply Kd.R_alloc | apply Kd.R_drewN | apply Kd.R_drew)); exact HO_4.out) (Kd.R_base ho22) hb)
                        have n1_ := Asd.mk (Kd.R_elder' (by (with_reducible repeat (first | apply Kd.R_alloc | apply Kd.R_drewN | apply Kd.R_drew)); exact HO_5.out) (Kd.R_base ho22) hb)
                        have n2_ := Asd.mk (Kd.V_elder' (by (with_reducible repeat (first | apply Kd.V_alloc | apply Kd.V_drewN | apply Kd.V_drew)); exact HO_17.out) (Kd.R_base ho22) hb)
                        have n3_ := Asd.mk (Kd.V_elder' (by (with_reducible repeat (first | apply Kd.V_alloc | apply Kd.V_drewN | apply Kd.V_drew)); exact HO_145005.out) (Kd.R_base ho22) hb)
                        have n4_ := Asd.mk (Kd.V_elder' (by (with_reducible repeat (first | apply Kd.V_alloc | apply Kd.V_drewN | apply Kd.V_drew)); exact HL146_5.out) (Kd.R_base ho22) hb)
                        have n5_ := Asd.mk (Kd.R_lower (Kd.R_new' (Kd.R_new' (Kd.R_newM (M := fun k_ => (w.heap.size ≤ k_)) ho22 (wSz (by repeat (first | (with_reducible first | exact HB.out | apply wAl | apply pDN | apply wDr | refine wSt ?_ GE144.out | refine wSt ?_ GE145.out | refine wSt ?_ GE147.out) | exact HB.out))) (fun k_ h_ => h_)) (Kd.R_lt (by (with_reducible repeat (first | apply Kd.R_alloc | apply Kd.R_drewN | apply Kd.R_drew)); exact HO_4.out))) (Kd.R_lt (by (with_reducible repeat (first | apply Kd.R_alloc | apply Kd.R_drewN | apply Kd.R_drew)); exact HO_5.out))) (wSz (by repeat (first | (with_reducible first | exact HB.out | apply wAl | apply pDN | apply wDr | refine wSt ?_ GE144.out | refine wSt ?_ GE145.out | refine wSt ?_ GE147.out) | exact HB.out))))
                        have n6_ := Asd.mk (blk_below (g := gb144) (o := .cells #[.int .i64 a0_0, .int .i64 a0_1, .int .i64 a0_2, .int .i64 a0_3, .string a0_4, .slice (some ad146) l0_5.length c0_5] 24 (0, 0)) (by (with_reducible repeat (first | refine bDN ?_ _ | refine bDr ?_ | refine bAl ?_ _)); exact BK144.out) hb)
                        have n7_ := Asd.mk (blk_below (g := gb145) (o := .cells #[.int .i64 x146000_1, .int .i64 x146001_1, .int .i64 x146002_1, .int .i64 x146003_1, .string x146004_1, .slice none 0 0] 24 (0, 0)) (by (with_reducible repeat (first | refine bDN ?_ _ | refine bDr ?_ | refine bAl ?_ _)); exact BK145.out) hb)
                        have n8_ := Asd.mk (blk_below (g := gb147) (o := .cells #[.int .i64 ((rd_T24 l0_5 x19_1).f0), .int .i64 ((rd_T24 l0_5 x19_1).f1), .int .i64 ((rd_T24 l0_5 x19_1).f2), .int .i64 ((rd_T24 l0_5 x19_1).f3), .string ((rd_T24 l0_5 x19_1).f4), .slice A146_5 ((rd_T24 l0_5 x19_1).f5).length c146_5] 24 (0, 0)) (by (with_reducible repeat (first | refine bDN ?_ _ | refine bDr ?_ | refine bAl ?_ _)); exact BK147.out) hb)
                        have n9_ := Asd.mk (wSp (by repeat (first | (with_reducible first | exact HB.out | apply wAl | apply pDN | apply wDr | refine wSt ?_ GE144.out | refine wSt ?_ GE145.out | refine wSt ?_ GE147.out) | exact HB.out)) hb)
                        clear HO_4
                        clear HO_5
                        clear HO_17
                        clear HO_145005
                        clear HL146_5
                        clear BK144
                        clear BK145
                        clear BK147
                        clear HB
                        have HO_4 := n0_
                        have HO_5 := n1_
                        have HO_17 := n2_
                        have HO_145005 := n3_
                        have HL146_5 := n4_
                        have HO150 := n5_
                        have BK144 := n6_
                        have BK145 := n7_
                        have BK147 := n8_
                        have HB := n9_
                        clear n0_ n1_ n2_ n3_ n4_ n5_ n6_ n7_ n8_ n9_
                        clear hb ho22
                        obtain ⟨Ao24, co24, eo24⟩ := Kd.R_slice HO150.out
                        (first | subst eo24 | (injection eo24 with f1_ f2_ f3_; have f4_ := f1_.symm; have f5_ := f3_.symm; clear f1_ f2_ f3_; subst f4_; subst f5_))
                        refine hK.out _ _ ⟨(bCl BK147.out 0).trans rfl, (bCl BK147.out 1).trans rfl, (bCl BK147.out 2).trans rfl, (bCl BK147.out 3).trans rfl, (bCl BK147.out 4).trans rfl, (bCl BK147.out 5).trans rfl⟩ (fun hHeld => ?_)
                        clear hK K
                        refine norm_ (a' := ?_) ?_ ?_
                        rotate_left
                        · show Act.put _ (some 30) _ = _
                          simp only [Act.put, List.setIfInBounds_toArray, List.set_cons_zero, List.set_cons_succ, i64_w, i32_w]
                          rfl
                        refine two_ (i := 4) (j := 8) (Ni := some 31) (Nj := some 35) #[true, true, true, true, true, true, true, true, false, false, false, false] #[true, true, true, true, false, true, true, true, true, false, false, false] rfl rfl rfl rfl (two_of HT_.out (by kernel_rfl)) (by decide) (by decide) (fun K hK => ?_) (fun K hK => ?_)
                        · skip
                          refine Kd.R_append_rows_step (Kd.int .i64) (w0 := w) w.heap.size (by rfl) (.tmp 27) (.tmp 30) 33 3 (.int .i64 0) 8 rfl Try.underlying33 info3 rfl (by decide) (by omega) (.slice Ao17 x4_1.length co17) x4_1 y148 _ _ _ (fun k_ => (w.heap.size ≤ k_) ∧ some k_ ≠ (.slice Ao18 x5_1.length co18 : Value).ownBlock ∧ some k_ ≠ (.slice Ao24 y148.length co24 : Value).ownBlock) (fun _ => False) rfl rfl ?aO ?aR (fun _ _ h => h) (fun _ h => h.elim) ?aF ?aB ?aS ?aL ?_
                          (case aR => repeat (first | exact (Kd.R_reads' HO150.out).2.2 | (with_reducible refine Kd.C_alloc ?_ _) | (with_reducible refine Kd.C_drewN ?_ _) | (with_reducible refine Kd.C_drew ?_)))
                          (case aB => exact (by repeat (first | (with_reducible first | exact HB.out | apply wAl | apply pDN | apply wDr | refine wSt ?_ GE144.out | refine wSt ?_ GE145.out | refine wSt ?_ GE147.out) | exact HB.out)))
                          (case aF => exact (fun k_ hk => ⟨(Nat.le_trans (wSz (by repeat (first | (with_reducible first | exact HB.out | apply wAl | apply pDN | apply wDr | refine wSt ?_ GE144.out | refine wSt ?_ GE145.out | refine wSt ?_ GE147.out) | exact HB.out))) hk), Kd.fresh' (Kd.R_lt (by (with_reducible repeat (first | apply Kd.R_alloc | apply Kd.R_drewN | apply Kd.R_drew)); exact HO_5.out)) k_ hk, Kd.fresh' (Kd.R_lt (by (with_reducible repeat (first | apply Kd.R_alloc | apply Kd.R_drewN | apply Kd.R_drew)); exact HO150.out)) k_ hk⟩))
                          (case aO => exact (by (with_reducible repeat (first | apply Kd.R_alloc | apply Kd.R_drewN | apply Kd.R_drew)); exact Kd.R_mono HO_4.out (fun _ hk => ⟨hk.1.1, ⟨hk.1.2, hk.2⟩⟩)))
                          (case aS => exact (wSz (by repeat (first | (with_reducible first | exact HB.out | apply wAl | apply pDN | apply wDr | refine wSt ?_ GE144.out | refine wSt ?_ GE145.out | refine wSt ?_ GE147.out) | exact HB.out))))
                          (case aL => have := LMc11.out; omega)
                          intro v152 w23 ho hb hg hat
                          rw [← Ny151.out] at ho
                          have n0_ := Asd.mk (Kd.R_after (ok := (fun k_ => (w.heap.size ≤ k_) ∧ some k_ ≠ (.slice Ao24 y148.length co24 : Value).ownBlock)) (by (with_reducible repeat (first | apply Kd.R_alloc | apply Kd.R_drewN | apply Kd.R_drew)); exact Kd.R_mono HO_5.out (fun _ hk => ⟨⟨hk.1.1, hk.2⟩, hk.1.2⟩)) hg hat)
                          have n1_ := Asd.mk (Kd.V_afterv (ok := (fun k_ => (P0_5_ k_ ∨ w.heap.size ≤ k_) ∧ some k_ ≠ (.slice Ao18 x5_1.length co18 : Value).ownBlock ∧ some k_ ≠ (.slice Ao24 y148.length co24 : Value).ownBlock ∧ k_ ≠ gb144 ∧ k_ ≠ gb145 ∧ k_ ≠ gb147)) (by (with_reducible repeat (first | apply Kd.V_alloc | apply Kd.V_drewN | apply Kd.V_drew)); exact Kd.V_mono HO_17.out (fun _ hk => ⟨⟨hk.1.1, ⟨hk.1.2.2.1, ⟨hk.2, ⟨hk.1.2.2.2.1, ⟨hk.1.2.2.2.2.1, hk.1.2.2.2.2.2⟩⟩⟩⟩⟩, hk.1.2.1⟩)) hg hat)
                          have n2_ := Asd.mk (Kd.V_afterv (ok := (fun k_ => (P0_5_ k_ ∨ w.heap.size ≤ k_) ∧ some k_ ≠ (.slice Ao18 x5_1.length co18 : Value).ownBlock ∧ some k_ ≠ (.slice Ao24 y148.length co24 : Value).ownBlock ∧ k_ ≠ gb144 ∧ k_ ≠ gb145 ∧ k_ ≠ gb147)) (by (with_reducible repeat (first | apply Kd.V_alloc | apply Kd.V_drewN | apply Kd.V_drew)); exact Kd.V_mono HO_145005.out (fun _ hk => ⟨⟨hk.1.1, ⟨hk.1.2.2.1, ⟨hk.2, ⟨hk.1.2.2.2.1, ⟨hk.1.2.2.2.2.1, hk.1.2.2.2.2.2⟩⟩⟩⟩⟩, hk.1.2.1⟩)) hg hat)
                          have n3_ := Asd.mk (blk_grown (g := gb144) (o := .cells #[.int .i64 a0_0, .int .i64 a0_1, .int .i64 a0_2, .int .i64 a0_3, .string a0_4, .slice (some ad146) l0_5.length c0_5] 24 (0, 0)) (by (with_reducible repeat (first | refine bDN ?_ _ | refine bDr ?_ | refine bAl ?_ _)); exact BK144.out) hg (Kd.R_ne HO_4.out BK144.out (by decide)))
                          have n4_ := Asd.mk (blk_grown (g := gb145) (o := .cells #[.int .i64 x146000_1, .int .i64 x146001_1, .int .i64 x146002_1, .int .i64 x146003_1, .string x146004_1, .slice none 0 0] 24 (0, 0)) (by (with_reducible repeat (first | refine bDN ?_ _ | refine bDr ?_ | refine bAl ?_ _)); exact BK145.out) hg (Kd.R_ne HO_4.out BK145.out (by decide)))
                          have n5_ := Asd.mk (Kd.V_afterv (ok := (fun k_ => (P0_5_ k_ ∨ w.heap.size ≤ k_) ∧ some k_ ≠ (.slice Ao18 x5_1.length co18 : Value).ownBlock ∧ some k_ ≠ (.slice Ao24 y148.length co24 : Value).ownBlock ∧ k_ ≠ gb144 ∧ k_ ≠ gb145 ∧ k_ ≠ gb147)) (by (with_reducible repeat (first | apply Kd.V_alloc | apply Kd.V_drewN | apply Kd.V_drew)); exact Kd.V_mono HL146_5.out (fun _ hk => ⟨⟨hk.1.1, ⟨hk.1.2.2.1, ⟨hk.2, ⟨hk.1.2.2.2.1, ⟨hk.1.2.2.2.2.1, hk.1.2.2.2.2.2⟩⟩⟩⟩⟩, hk.1.2.1⟩)) hg hat)
                          have n6_ := Asd.mk (blk_grown (g := gb147) (o := .cells #[.int .i64 ((rd_T24 l0_5 x19_1).f0), .int .i64 ((rd_T24 l0_5 x19_1).f1), .int .i64 ((rd_T24 l0_5 x19_1).f2), .int .i64 ((rd_T24 l0_5 x19_1).f3), .string ((rd_T24 l0_5 x19_1).f4), .slice A146_5 ((rd_T24 l0_5 x19_1).f5).length c146_5] 24 (0, 0)) (by (with_reducible repeat (first | refine bDN ?_ _ | refine bDr ?_ | refine bAl ?_ _)); exact BK147.out) hg (Kd.R_ne HO_4.out BK147.out (by decide)))
                          have n7_ := Asd.mk (Kd.R_after (ok := (fun k_ => (w.heap.size ≤ k_) ∧ some k_ ≠ (.slice Ao18 x5_1.length co18 : Value).ownBlock)) (by (with_reducible repeat (first | apply Kd.R_alloc | apply Kd.R_drewN | apply Kd.R_drew)); exact Kd.R_mono HO150.out (fun _ hk => ⟨⟨hk.1.1.1, hk.2⟩, hk.1.2⟩)) hg hat)
                          have n8_ := Asd.mk (hb)
                          have n9_ := Asd.mk (ho)
                          clear HO_5
                          clear HO_17
                          clear HO_145005
                          clear BK144
                          clear BK145
                          clear HL146_5
                          clear BK147
                          clear HO150
                          clear HB
                          clear HO_4
                          have HO_5 := n0_
                          have HO_17 := n1_
                          have HO_145005 := n2_
                          have BK144 := n3_
                          have BK145 := n4_
                          have HL146_5 := n5_
                          have BK147 := n6_
                          have HO150 := n7_
                          have HB := n8_
                          have HO153 := n9_
                          clear n0_ n1_ n2_ n3_ n4_ n5_ n6_ n7_ n8_ n9_
                          clear ho hb hg hat
                          refine hK.out _ _ ⟨(bCl BK147.out 0).trans rfl, (bCl BK147.out 1).trans rfl, (bCl BK147.out 2).trans rfl, (bCl BK147.out 3).trans rfl, (bCl BK147.out 4).trans rfl, (bCl BK147.out 5).trans rfl⟩ (fun hHeld => ?_)
                          clear hK K
                          refine norm_ (a' := ?_) ?_ ?_
                          rotate_left
                          · show Act.put _ (some 31) _ = _
                            simp only [Act.put, List.setIfInBounds_toArray, List.set_cons_zero, List.set_cons_succ, i64_w, i32_w]
                            rfl
                          refine one_ (i := 8) (N := some 35) #[true, true, true, true, true, true, true, true, true, false, false, false] rfl rfl (one_of HT_.out (by kernel_rfl)) (by decide) (fun K hK => ?_)
                          refine Kd.R_lit_step (Kd.int .i64) _ 3 ?hg (N := 35) ?hd (xs := ([(rd_T24 l0_5 x19_1).f3] : List Int)) (inner := [.int .i64 ((rd_T24 l0_5 x19_1).f3)]) (ok := fun _ => True) (okp := fun _ => True) ?hr ?hp (fun _ hk => hk) trivial (Below.refl _ _) (Nat.le_refl _) (by simp) ?_; (case hd => rfl); (case hg => rfl); (case hr => first | (go_simp; done) | (go_simp; rfl)); (case hp => exact (Reps.one (show Kd.M (Kd.int .i64) _ _ _ ((rd_T24 l0_5 x19_1).f3) [.int .i64 ((rd_T24 l0_5 x19_1).f3)] from rfl) (Reps.none _ _)))
                          intro v155 w25 ho26 hb hg_ hnew_
                          clear hg_ hnew_
                          (first | rw [← Ny154.out] at ho26 | (simp only [Int.reduceToNat] at ho26; rw [← Ny154.out] at ho26))
                          have n0_ := Asd.mk (Kd.R_elder' (by (with_reducible repeat (first | apply Kd.R_alloc | apply Kd.R_drewN | apply Kd.R_drew)); exact HO_5.out) (Kd.R_base ho26) hb)
                          have n1_ := Asd.mk (Kd.V_elder' (by (with_reducible repeat (first | apply Kd.V_alloc | apply Kd.V_drewN | apply Kd.V_drew)); exact HO_17.out) (Kd.R_base ho26) hb)
                          have n2_ := Asd.mk (Kd.V_elder' (by (with_reducible repeat (first | apply Kd.V_alloc | apply Kd.V_drewN | apply Kd.V_drew)); exact HO_145005.out) (Kd.R_base ho26) hb)
                          have n3_ := Asd.mk (Kd.V_elder' (by (with_reducible repeat (first | apply Kd.V_alloc | apply Kd.V_drewN | apply Kd.V_drew)); exact HL146_5.out) (Kd.R_base ho26) hb)
                          have n4_ := Asd.mk (Kd.R_elder' (by (with_reducible repeat (first | apply Kd.R_alloc | apply Kd.R_drewN | apply Kd.R_drew)); exact HO150.out) (Kd.R_base ho26) hb)
                          have n5_ := Asd.mk (Kd.R_elder' (by (with_reducible repeat (first | apply Kd.R_alloc | apply Kd.R_drewN | apply Kd.R_drew)); exact HO153.out) (Kd.R_base ho26) hb)
                          have n6_ := Asd.mk (Kd.R_lower (Kd.R_new' (Kd.R_new' (Kd.R_new' (Kd.R_newM (M := fun k_ => (w.heap.size ≤ k_)) ho26 (wSz (by repeat (first | (with_reducible first | exact HB.out | apply wAl | apply pDN | apply wDr | refine wSt ?_ GE144.out | refine wSt ?_ GE145.out | refine wSt ?_ GE147.out) | exact HB.out))) (fun k_ h_ => h_)) (Kd.R_lt (by (with_reducible repeat (first | apply Kd.R_alloc | apply Kd.R_drewN | apply Kd.R_drew)); exact HO_5.out))) (Kd.R_lt (by (with_reducible repeat (first | apply Kd.R_alloc | apply Kd.R_drewN | apply Kd.R_drew)); exact HO150.out))) (Kd.R_lt (by (with_reducible repeat (first | apply Kd.R_alloc | apply Kd.R_drewN | apply Kd.R_drew)); exact HO153.out))) (wSz (by repeat (first | (with_reducible first | exact HB.out | apply wAl | apply pDN | apply wDr | refine wSt ?_ GE144.out | refine wSt ?_ GE145.out | refine wSt ?_ GE147.out) | exact HB.out))))
                          have n7_ := Asd.mk (blk_below (g := gb144) (o := .cells #[.int .i64 a0_0, .int .i64 a0_1, .int .i64 a0_2, .int .i64 a0_3, .string a0_4, .slice (some ad146) l0_5.length c0_5] 24 (0, 0)) (by (with_reducible repeat (first | refine bDN ?_ _ | refine bDr ?_ | refine bAl ?_ _)); exact BK144.out) hb)
                          have n8_ := Asd.mk (blk_below (g := gb145) (o := .cells #[.int .i64 x146000_1, .int .i64 x146001_1, .int .i64 x146002_1, .int .i64 x146003_1, .string x146004_1, .slice none 0 0] 24 (0, 0)) (by (with_reducible repeat (first | refine bDN ?_ _ | refine bDr ?_ | refine bAl ?_ _)); exact BK145.out) hb)
                          have n9_ := Asd.mk (blk_below (g := gb147) (o := .cells #[.int .i64 ((rd_T24 l0_5 x19_1).f0), .int .i64 ((rd_T24 l0_5 x19_1).f1), .int .i64 ((rd_T24 l0_5 x19_1).f2), .int .i64 ((rd_T24 l0_5 x19_1).f3), .string ((rd_T24 l0_5 x19_1).f4), .slice A146_5 ((rd_T24 l0_5 x19_1).f5).length c146_5] 24 (0, 0)) (by (with_reducible repeat (first | refine bDN ?_ _ | refine bDr ?_ | refine bAl ?_ _)); exact BK147.out) hb)
                          have n10_ := Asd.mk (wSp (by repeat (first | (with_reducible first | exact HB.out | apply wAl | apply pDN | apply wDr | refine wSt ?_ GE144.out | refine wSt ?_ GE145.out | refine wSt ?_ GE147.out) | exact HB.out)) hb)
                          clear HO_5
                          clear HO_17
                          clear HO_145005
                          clear HL146_5
                          clear HO150
                          clear HO153
                          clear BK144
                          clear BK145
                          clear BK147
                          clear HB
                          have HO_5 := n0_
                          have HO_17 := n1_
                          have HO_145005 := n2_
                          have HL146_5 := n3_
                          have HO150 := n4_
                          have HO153 := n5_
                          have HO156 := n6_
                          have BK144 := n7_
                          have BK145 := n8_
                          have BK147 := n9_
                          have HB := n10_
                          clear n0_ n1_ n2_ n3_ n4_ n5_ n6_ n7_ n8_ n9_ n10_
                          clear hb ho26
                          refine hK.out _ _ ⟨(bCl BK147.out 0).trans rfl, (bCl BK147.out 1).trans rfl, (bCl BK147.out 2).trans rfl, (bCl BK147.out 3).trans rfl, (bCl BK147.out 4).trans rfl, (bCl BK147.out 5).trans rfl⟩ (fun hHeld => ?_)
                          clear hK K
                          refine norm_ (a' := ?_) ?_ ?_
                          rotate_left
                          · show Act.put _ (some 35) _ = _
                            simp only [Act.put, List.setIfInBounds_toArray, List.set_cons_zero, List.set_cons_succ, i64_w, i32_w]
                            rfl
                          exact norm_ (by simp only [putAll, Act.put, List.setIfInBounds_toArray, List.set_cons_zero, List.set_cons_succ]) (hCont (.slice Ao24 y148.length co24, v152, v155) _ ⟨hHeld, (by (with_reducible repeat (first | apply Kd.V_alloc | apply Kd.V_drewN | apply Kd.V_drew)); exact Kd.V_mono HL146_5.out (fun _ hk => ⟨hk.1.1.1, ⟨hk.1.1.2.2.1, ⟨hk.1.2, ⟨hk.2, ⟨hk.1.1.2.1, ⟨hk.1.1.2.2.2.1, ⟨hk.1.1.2.2.2.2.1, hk.1.1.2.2.2.2.2⟩⟩⟩⟩⟩⟩⟩)), (by (with_reducible repeat (first | apply Kd.R_alloc | apply Kd.R_drewN | apply Kd.R_drew)); exact Kd.R_mono HO150.out (fun _ hk => ⟨hk.1.1.1, ⟨hk.1.2, ⟨hk.2, hk.1.1.2⟩⟩⟩)), (by (with_reducible repeat (first | apply Kd.R_alloc | apply Kd.R_drewN | apply Kd.R_drew)); exact Kd.R_mono HO153.out (fun _ hk => ⟨hk.1.1, ⟨hk.1.2.2, ⟨hk.2, hk.1.2.1⟩⟩⟩)), (by (with_reducible repeat (first | apply Kd.R_alloc | apply Kd.R_drewN | apply Kd.R_drew)); exact Kd.R_mono HO156.out (fun _ hk => ⟨hk.1.1.1.1, ⟨hk.1.2, ⟨hk.2, hk.1.1.2⟩⟩⟩)), (by (with_reducible repeat (first | apply Kd.V_alloc | apply Kd.V_drewN | apply Kd.V_drew)); exact Kd.V_mono HO_145005.out (fun _ hk => ⟨hk.1.1.1, ⟨hk.1.1.2.2.1, ⟨hk.1.2, ⟨hk.2, ⟨hk.1.1.2.1, ⟨hk.1.1.2.2.2.1, ⟨hk.1.1.2.2.2.2.1, hk.1.1.2.2.2.2.2⟩⟩⟩⟩⟩⟩⟩)), (by (with_reducible repeat (first | apply Kd.V_alloc | apply Kd.V_drewN | apply Kd.V_drew)); exact Kd.V_mono HO_17.out (fun _ hk => ⟨hk.1.1.1, ⟨hk.1.1.2.2.1, ⟨hk.1.2, ⟨hk.2, ⟨hk.1.1.2.1, ⟨hk.1.1.2.2.2.1, ⟨hk.1.1.2.2.2.2.1, hk.1.1.2.2.2.2.2⟩⟩⟩⟩⟩⟩⟩)), (by (with_reducible repeat (first | apply Kd.R_alloc | apply Kd.R_drewN | apply Kd.R_drew)); exact Kd.R_mono HO_5.out (fun _ hk => ⟨hk.1.1.1, ⟨hk.1.1.2, ⟨hk.1.2, hk.2⟩⟩⟩)), (by (with_reducible repeat (first | refine bDN ?_ _ | refine bDr ?_ | refine bAl ?_ _)); exact BK144.out), (by (with_reducible repeat (first | refine bDN ?_ _ | refine bDr ?_ | refine bAl ?_ _)); exact BK145.out), (by (with_reducible repeat (first | refine bDN ?_ _ | refine bDr ?_ | refine bAl ?_ _)); exact BK147.out), (by repeat (first | (with_reducible first | exact HB.out | apply wAl | apply pDN | apply wDr | refine wSt ?_ GE144.out | refine wSt ?_ GE145.out | refine wSt ?_ GE147.out) | exact HB.out))⟩)
                        · skip
                          refine Kd.R_lit_step (Kd.int .i64) _ 3 ?hg (N := 35) ?hd (xs := ([(rd_T24 l0_5 x19_1).f3] : List Int)) (inner := [.int .i64 ((rd_T24 l0_5 x19_1).f3)]) (ok := fun _ => True) (okp := fun _ => True) ?hr ?hp (fun _ hk => hk) trivial (Below.refl _ _) (Nat.le_refl _) (by simp) ?_; (case hd => rfl); (case hg => rfl); (case hr => first | (go_simp; done) | (go_simp; rfl)); (case hp => exact (Reps.one (show Kd.M (Kd.int .i64) _ _ _ ((rd_T24 l0_5 x19_1).f3) [.int .i64 ((rd_T24 l0_5 x19_1).f3)] from rfl) (Reps.none _ _)))
                          intro v155 w23 ho24 hb hg_ hnew_
                          clear hg_ hnew_
                          (first | rw [← Ny154.out] at ho24 | (simp only [Int.reduceToNat] at ho24; rw [← Ny154.out] at ho24))
                          have n0_ := Asd.mk (Kd.R_elder' (by (with_reducible repeat (first | apply Kd.R_alloc | apply Kd.R_drewN | apply Kd.R_drew)); exact HO_4.out) (Kd.R_base ho24) hb)
                          have n1_ := Asd.mk (Kd.R_elder' (by (with_reducible repeat (first | apply Kd.R_alloc | apply Kd.R_drewN | apply Kd.R_drew)); exact HO_5.out) (Kd.R_base ho24) hb)
                          have n2_ := Asd.mk (Kd.V_elder' (by (with_reducible repeat (first | apply Kd.V_alloc | apply Kd.V_drewN | apply Kd.V_drew)); exact HO_17.out) (Kd.R_base ho24) hb)
                          have n3_ := Asd.mk (Kd.V_elder' (by (with_reducible repeat (first | apply Kd.V_alloc | apply Kd.V_drewN | apply Kd.V_drew)); exact HO_145005.out) (Kd.R_base ho24) hb)
                          have n4_ := Asd.mk (Kd.V_elder' (by (with_reducible repeat (first | apply Kd.V_alloc | apply Kd.V_drewN | apply Kd.V_drew)); exact HL146_5.out) (Kd.R_base ho24) hb)
                          have n5_ := Asd.mk (Kd.R_elder' (by (with_reducible repeat (first | apply Kd.R_alloc | apply Kd.R_drewN | apply Kd.R_drew)); exact HO150.out) (Kd.R_base ho24) hb)
                          have n6_ := Asd.mk (Kd.R_lower (Kd.R_new' (Kd.R_new' (Kd.R_new' (Kd.R_newM (M := fun k_ => (w.heap.size ≤ k_)) ho24 (wSz (by repeat (first | (with_reducible first | exact HB.out | apply wAl | apply pDN | apply wDr | refine wSt ?_ GE144.out | refine wSt ?_ GE145.out | refine wSt ?_ GE147.out) | exact HB.out))) (fun k_ h_ => h_)) (Kd.R_lt (by (with_reducible repeat (first | apply Kd.R_alloc | apply Kd.R_drewN | apply Kd.R_drew)); exact HO_4.out))) (Kd.R_lt (by (with_reducible repeat (first | apply Kd.R_alloc | apply Kd.R_drewN | apply Kd.R_drew)); exact HO_5.out))) (Kd.R_lt (by (with_reducible repeat (first | apply Kd.R_alloc | apply Kd.R_drewN | apply Kd.R_drew)); exact HO150.out))) (wSz (by repeat (first | (with_reducible first | exact HB.out | apply wAl | apply pDN | apply wDr | refine wSt ?_ GE144.out | refine wSt ?_ GE145.out | refine wSt ?_ GE147.out) | exact HB.out))))
                          have n7_ := Asd.mk (blk_below (g := gb144) (o := .cells #[.int .i64 a0_0, .int .i64 a0_1, .int .i64 a0_2, .int .i64 a0_3, .string a0_4, .slice (some ad146) l0_5.length c0_5] 24 (0, 0)) (by (with_reducible repeat (first | refine bDN ?_ _ | refine bDr ?_ | refine bAl ?_ _)); exact BK144.out) hb)
                          have n8_ := Asd.mk (blk_below (g := gb145) (o := .cells #[.int .i64 x146000_1, .int .i64 x146001_1, .int .i64 x146002_1, .int .i64 x146003_1, .string x146004_1, .slice none 0 0] 24 (0, 0)) (by (with_reducible repeat (first | refine bDN ?_ _ | refine bDr ?_ | refine bAl ?_ _)); exact BK145.out) hb)
                          have n9_ := Asd.mk (blk_below (g := gb147) (o := .cells #[.int .i64 ((rd_T24 l0_5 x19_1).f0), .int .i64 ((rd_T24 l0_5 x19_1).f1), .int .i64 ((rd_T24 l0_5 x19_1).f2), .int .i64 ((rd_T24 l0_5 x19_1).f3), .string ((rd_T24 l0_5 x19_1).f4), .slice A146_5 ((rd_T24 l0_5 x19_1).f5).length c146_5] 24 (0, 0)) (by (with_reducible repeat (first | refine bDN ?_ _ | refine bDr ?_ | refine bAl ?_ _)); exact BK147.out) hb)
                          have n10_ := Asd.mk (wSp (by repeat (first | (with_reducible first | exact HB.out | apply wAl | apply pDN | apply wDr | refine wSt ?_ GE144.out | refine wSt ?_ GE145.out | refine wSt ?_ GE147.out) | exact HB.out)) hb)
                          clear HO_4
                          clear HO_5
                          clear HO_17
                          clear HO_145005
                          clear HL146_5
                          clear HO150
                          clear BK144
                          clear BK145
                          clear BK147
                          clear HB
                          have HO_4 := n0_
                          have HO_5 := n1_
                          have HO_17 := n2_
                          have HO_145005 := n3_
                          have HL146_5 := n4_
                          have HO150 := n5_
                          have HO156 := n6_
                          have BK144 := n7_
                          have BK145 := n8_
                          have BK147 := n9_
                          have HB := n10_
                          clear n0_ n1_ n2_ n3_ n4_ n5_ n6_ n7_ n8_ n9_ n10_
                          clear hb ho24
                          obtain ⟨Ao26, co26, eo26⟩ := Kd.R_slice HO150.out
                          (first | subst eo26 | (injection eo26 with f1_ f2_ f3_; have f4_ := f1_.symm; have f5_ := f3_.symm; clear f1_ f2_ f3_; subst f4_; subst f5_))
                          refine hK.out _ _ ⟨(bCl BK147.out 0).trans rfl, (bCl BK147.out 1).trans rfl, (bCl BK147.out 2).trans rfl, (bCl BK147.out 3).trans rfl, (bCl BK147.out 4).trans rfl, (bCl BK147.out 5).trans rfl⟩ (fun hHeld => ?_)
                          clear hK K
                          refine norm_ (a' := ?_) ?_ ?_
                          rotate_left
                          · show Act.put _ (some 35) _ = _
                            simp only [Act.put, List.setIfInBounds_toArray, List.set_cons_zero, List.set_cons_succ, i64_w, i32_w]
                            rfl
                          refine one_ (i := 4) (N := some 31) #[true, true, true, true, true, true, true, true, true, false, false, false] rfl rfl (one_of HT_.out (by kernel_rfl)) (by decide) (fun K hK => ?_)
                          refine Kd.R_append_rows_step (Kd.int .i64) (w0 := w) w.heap.size (by rfl) (.tmp 27) (.tmp 30) 33 3 (.int .i64 0) 8 rfl Try.underlying33 info3 rfl (by decide) (by omega) (.slice Ao17 x4_1.length co17) x4_1 y148 _ _ _ (fun k_ => (w.heap.size ≤ k_) ∧ some k_ ≠ (.slice Ao18 x5_1.length co18 : Value).ownBlock ∧ some k_ ≠ (.slice Ao26 y148.length co26 : Value).ownBlock ∧ some k_ ≠ (v155 : Value).ownBlock) (fun _ => False) rfl rfl ?aO ?aR (fun _ _ h => h) (fun _ h => h.elim) ?aF ?aB ?aS ?aL ?_
                          (case aR => repeat (first | exact (Kd.R_reads' HO150.out).2.2 | (with_reducible refine Kd.C_alloc ?_ _) | (with_reducible refine Kd.C_drewN ?_ _) | (with_reducible refine Kd.C_drew ?_)))
                          (case aB => exact (by repeat (first | (with_reducible first | exact HB.out | apply wAl | apply pDN | apply wDr | refine wSt ?_ GE144.out | refine wSt ?_ GE145.out | refine wSt ?_ GE147.out) | exact HB.out)))
                          (case aF => exact (fun k_ hk => ⟨(Nat.le_trans (wSz (by repeat (first | (with_reducible first | exact HB.out | apply wAl | apply pDN | apply wDr | refine wSt ?_ GE144.out | refine wSt ?_ GE145.out | refine wSt ?_ GE147.out) | exact HB.out))) hk), Kd.fresh' (Kd.R_lt (by (with_reducible repeat (first | apply Kd.R_alloc | apply Kd.R_drewN | apply Kd.R_drew)); exact HO_5.out)) k_ hk, Kd.fresh' (Kd.R_lt (by (with_reducible repeat (first | apply Kd.R_alloc | apply Kd.R_drewN | apply Kd.R_drew)); exact HO150.out)) k_ hk, Kd.fresh' (Kd.R_lt (by (with_reducible repeat (first | apply Kd.R_alloc | apply Kd.R_drewN | apply Kd.R_drew)); exact HO156.out)) k_ hk⟩))
                          (case aO => exact (by (with_reducible repeat (first | apply Kd.R_alloc | apply Kd.R_drewN | apply Kd.R_drew)); exact Kd.R_mono HO_4.out (fun _ hk => ⟨hk.1.1.1, ⟨hk.1.1.2, ⟨hk.1.2, hk.2⟩⟩⟩)))
                          (case aS => exact (wSz (by repeat (first | (with_reducible first | exact HB.out | apply wAl | apply pDN | apply wDr | refine wSt ?_ GE144.out | refine wSt ?_ GE145.out | refine wSt ?_ GE147.out) | exact HB.out))))
                          (case aL => have := LMc11.out; omega)
                          intro v152 w25 ho hb hg hat
                          rw [← Ny151.out] at ho
                          have n0_ := Asd.mk (Kd.R_after (ok := (fun k_ => (w.heap.size ≤ k_) ∧ some k_ ≠ (.slice Ao26 y148.length co26 : Value).ownBlock ∧ some k_ ≠ (v155 : Value).ownBlock)) (by (with_reducible repeat (first | apply Kd.R_alloc | apply Kd.R_drewN | apply Kd.R_drew)); exact Kd.R_mono HO_5.out (fun _ hk => ⟨⟨hk.1.1.1, ⟨hk.1.2, hk.2⟩⟩, hk.1.1.2⟩)) hg hat)
                          have n1_ := Asd.mk (Kd.V_afterv (ok := (fun k_ => (P0_5_ k_ ∨ w.heap.size ≤ k_) ∧ some k_ ≠ (.slice Ao18 x5_1.length co18 : Value).ownBlock ∧ some k_ ≠ (.slice Ao26 y148.length co26 : Value).ownBlock ∧ some k_ ≠ (v155 : Value).ownBlock ∧ k_ ≠ gb144 ∧ k_ ≠ gb145 ∧ k_ ≠ gb147)) (by (with_reducible repeat (first | apply Kd.V_alloc | apply Kd.V_drewN | apply Kd.V_drew)); exact Kd.V_mono HO_17.out (fun _ hk => ⟨⟨hk.1.1.1, ⟨hk.1.1.2.2.1, ⟨hk.1.2, ⟨hk.2, ⟨hk.1.1.2.2.2.1, ⟨hk.1.1.2.2.2.2.1, hk.1.1.2.2.2.2.2⟩⟩⟩⟩⟩⟩, hk.1.1.2.1⟩)) hg hat)
                          have n2_ := Asd.mk (Kd.V_afterv (ok := (fun k_ => (P0_5_ k_ ∨ w.heap.size ≤ k_) ∧ some k_ ≠ (.slice Ao18 x5_1.length co18 : Value).ownBlock ∧ some k_ ≠ (.slice Ao26 y148.length co26 : Value).ownBlock ∧ some k_ ≠ (v155 : Value).ownBlock ∧ k_ ≠ gb144 ∧ k_ ≠ gb145 ∧ k_ ≠ gb147)) (by (with_reducible repeat (first | apply Kd.V_alloc | apply Kd.V_drewN | apply Kd.V_drew)); exact Kd.V_mono HO_145005.out (fun _ hk => ⟨⟨hk.1.1.1, ⟨hk.1.1.2.2.1, ⟨hk.1.2, ⟨hk.2, ⟨hk.1.1.2.2.2.1, ⟨hk.1.1.2.2.2.2.1, hk.1.1.2.2.2.2.2⟩⟩⟩⟩⟩⟩, hk.1.1.2.1⟩)) hg hat)
                          have n3_ := Asd.mk (blk_grown (g := gb144) (o := .cells #[.int .i64 a0_0, .int .i64 a0_1, .int .i64 a0_2, .int .i64 a0_3, .string a0_4, .slice (some ad146) l0_5.length c0_5] 24 (0, 0)) (by (with_reducible repeat (first | refine bDN ?_ _ | refine bDr ?_ | refine bAl ?_ _)); exact BK144.out) hg (Kd.R_ne HO_4.out BK144.out (by decide)))
                          have n4_ := Asd.mk (blk_grown (g := gb145) (o := .cells #[.int .i64 x146000_1, .int .i64 x146001_1, .int .i64 x146002_1, .int .i64 x146003_1, .string x146004_1, .slice none 0 0] 24 (0, 0)) (by (with_reducible repeat (first | refine bDN ?_ _ | refine bDr ?_ | refine bAl ?_ _)); exact BK145.out) hg (Kd.R_ne HO_4.out BK145.out (by decide)))
                          have n5_ := Asd.mk (Kd.V_afterv (ok := (fun k_ => (P0_5_ k_ ∨ w.heap.size ≤ k_) ∧ some k_ ≠ (.slice Ao18 x5_1.length co18 : Value).ownBlock ∧ some k_ ≠ (.slice Ao26 y148.length co26 : Value).ownBlock ∧ some k_ ≠ (v155 : Value).ownBlock ∧ k_ ≠ gb144 ∧ k_ ≠ gb145 ∧ k_ ≠ gb147)) (by (with_reducible repeat (first | apply Kd.V_alloc | apply Kd.V_drewN | apply Kd.V_drew)); exact Kd.V_mono HL146_5.out (fun _ hk => ⟨⟨hk.1.1.1, ⟨hk.1.1.2.2.1, ⟨hk.1.2, ⟨hk.2, ⟨hk.1.1.2.2.2.1, ⟨hk.1.1.2.2.2.2.1, hk.1.1.2.2.2.2.2⟩⟩⟩⟩⟩⟩, hk.1.1.2.1⟩)) hg hat)
                          have n6_ := Asd.mk (blk_grown (g := gb147) (o := .cells #[.int .i64 ((rd_T24 l0_5 x19_1).f0), .int .i64 ((rd_T24 l0_5 x19_1).f1), .int .i64 ((rd_T24 l0_5 x19_1).f2), .int .i64 ((rd_T24 l0_5 x19_1).f3), .string ((rd_T24 l0_5 x19_1).f4), .slice A146_5 ((rd_T24 l0_5 x19_1).f5).length c146_5] 24 (0, 0)) (by (with_reducible repeat (first | refine bDN ?_ _ | refine bDr ?_ | refine bAl ?_ _)); exact BK147.out) hg (Kd.R_ne HO_4.out BK147.out (by decide)))
                          have n7_ := Asd.mk (Kd.R_after (ok := (fun k_ => (w.heap.size ≤ k_) ∧ some k_ ≠ (.slice Ao18 x5_1.length co18 : Value).ownBlock ∧ some k_ ≠ (v155 : Value).ownBlock)) (by (with_reducible repeat (first | apply Kd.R_alloc | apply Kd.R_drewN | apply Kd.R_drew)); exact Kd.R_mono HO150.out (fun _ hk => ⟨⟨hk.1.1.1.1, ⟨hk.1.2, hk.2⟩⟩, hk.1.1.2⟩)) hg hat)
                          have n8_ := Asd.mk (Kd.R_after (ok := (fun k_ => (w.heap.size ≤ k_) ∧ some k_ ≠ (.slice Ao18 x5_1.length co18 : Value).ownBlock ∧ some k_ ≠ (.slice Ao26 y148.length co26 : Value).ownBlock)) (by (with_reducible repeat (first | apply Kd.R_alloc | apply Kd.R_drewN | apply Kd.R_drew)); exact Kd.R_mono HO156.out (fun _ hk => ⟨⟨hk.1.1.1.1, ⟨hk.1.2, hk.2⟩⟩, hk.1.1.2⟩)) hg hat)
                          have n9_ := Asd.mk (hb)
                          have n10_ := Asd.mk (ho)
                          clear HO_5
                          clear HO_17
                          clear HO_145005
                          clear BK144
                          clear BK145
                          clear HL146_5
                          clear BK147
                          clear HO150
                          clear HO156
                          clear HB
                          clear HO_4
                          have HO_5 := n0_
                          have HO_17 := n1_
                          have HO_145005 := n2_
                          have BK144 := n3_
                          have BK145 := n4_
                          have HL146_5 := n5_
                          have BK147 := n6_
                          have HO150 := n7_
                          have HO156 := n8_
                          have HB := n9_
                          have HO153 := n10_
                          clear n0_ n1_ n2_ n3_ n4_ n5_ n6_ n7_ n8_ n9_ n10_
                          clear ho hb hg hat
                          refine hK.out _ _ ⟨(bCl BK147.out 0).trans rfl, (bCl BK147.out 1).trans rfl, (bCl BK147.out 2).trans rfl, (bCl BK147.out 3).trans rfl, (bCl BK147.out 4).trans rfl, (bCl BK147.out 5).trans rfl⟩ (fun hHeld => ?_)
                          clear hK K
                          refine norm_ (a' := ?_) ?_ ?_
                          rotate_left
                          · show Act.put _ (some 31) _ = _
                            simp only [Act.put, List.setIfInBounds_toArray, List.set_cons_zero, List.set_cons_succ, i64_w, i32_w]
                            rfl
                          exact norm_ (by simp only [putAll, Act.put, List.setIfInBounds_toArray, List.set_cons_zero, List.set_cons_succ]) (hCont (.slice Ao26 y148.length co26, v152, v155) _ ⟨hHeld, (by (with_reducible repeat (first | apply Kd.V_alloc | apply Kd.V_drewN | apply Kd.V_drew)); exact Kd.V_mono HL146_5.out (fun _ hk => ⟨hk.1.1, ⟨hk.1.2.2.1, ⟨hk.2, ⟨hk.1.2.2.2.1, ⟨hk.1.2.1, ⟨hk.1.2.2.2.2.1, ⟨hk.1.2.2.2.2.2.1, hk.1.2.2.2.2.2.2⟩⟩⟩⟩⟩⟩⟩)), (by (with_reducible repeat (first | apply Kd.R_alloc | apply Kd.R_drewN | apply Kd.R_drew)); exact Kd.R_mono HO150.out (fun _ hk => ⟨hk.1.1, ⟨hk.2, ⟨hk.1.2.2, hk.1.2.1⟩⟩⟩)), (by (with_reducible repeat (first | apply Kd.R_alloc | apply Kd.R_drewN | apply Kd.R_drew)); exact Kd.R_mono HO153.out (fun _ hk => ⟨hk.1, ⟨hk.2.2.1, ⟨hk.2.2.2, hk.2.1⟩⟩⟩)), (by (with_reducible repeat (first | apply Kd.R_alloc | apply Kd.R_drewN | apply Kd.R_drew)); exact Kd.R_mono HO156.out (fun _ hk => ⟨hk.1.1, ⟨hk.1.2.2, ⟨hk.2, hk.1.2.1⟩⟩⟩)), (by (with_reducible repeat (first | apply Kd.V_alloc | apply Kd.V_drewN | apply Kd.V_drew)); exact Kd.V_mono HO_145005.out (fun _ hk => ⟨hk.1.1, ⟨hk.1.2.2.1, ⟨hk.2, ⟨hk.1.2.2.2.1, ⟨hk.1.2.1, ⟨hk.1.2.2.2.2.1, ⟨hk.1.2.2.2.2.2.1, hk.1.2.2.2.2.2.2⟩⟩⟩⟩⟩⟩⟩)), (by (with_reducible repeat (first | apply Kd.V_alloc | apply Kd.V_drewN | apply Kd.V_drew)); exact Kd.V_mono HO_17.out (fun _ hk => ⟨hk.1.1, ⟨hk.1.2.2.1, ⟨hk.2, ⟨hk.1.2.2.2.1, ⟨hk.1.2.1, ⟨hk.1.2.2.2.2.1, ⟨hk.1.2.2.2.2.2.1, hk.1.2.2.2.2.2.2⟩⟩⟩⟩⟩⟩⟩)), (by (with_reducible repeat (first | apply Kd.R_alloc | apply Kd.R_drewN | apply Kd.R_drew)); exact Kd.R_mono HO_5.out (fun _ hk => ⟨hk.1.1, ⟨hk.1.2.1, ⟨hk.2, hk.1.2.2⟩⟩⟩)), (by (with_reducible repeat (first | refine bDN ?_ _ | refine bDr ?_ | refine bAl ?_ _)); exact BK144.out), (by (with_reducible repeat (first | refine bDN ?_ _ | refine bDr ?_ | refine bAl ?_ _)); exact BK145.out), (by (with_reducible repeat (first | refine bDN ?_ _ | refine bDr ?_ | refine bAl ?_ _)); exact BK147.out), (by repeat (first | (with_reducible first | exact HB.out | apply wAl | apply pDN | apply wDr | refine wSt ?_ GE144.out | refine wSt ?_ GE145.out | refine wSt ?_ GE147.out) | exact HB.out))⟩)
                      · skip
                        refine Kd.R_lit_step (Kd.int .i64) _ 3 ?hg (N := 35) ?hd (xs := ([(rd_T24 l0_5 x19_1).f3] : List Int)) (inner := [.int .i64 ((rd_T24 l0_5 x19_1).f3)]) (ok := fun _ => True) (okp := fun _ => True) ?hr ?hp (fun _ hk => hk) trivial (Below.refl _ _) (Nat.le_refl _) (by simp) ?_; (case hd => rfl); (case hg => rfl); (case hr => first | (go_simp; done) | (go_simp; rfl)); (case hp => exact (Reps.one (show Kd.M (Kd.int .i64) _ _ _ ((rd_T24 l0_5 x19_1).f3) [.int .i64 ((rd_T24 l0_5 x19_1).f3)] from rfl) (Reps.none _ _)))
                        intro v155 w21 ho22 hb hg_ hnew_
                        clear hg_ hnew_
                        (first | rw [← Ny154.out] at ho22 | (simp only [Int.reduceToNat] at ho22; rw [← Ny154.out] at ho22))
                        have n0_ := Asd.mk (Kd.R_elder' (by (with_reducible repeat (first | apply Kd.R_alloc | apply Kd.R_drewN | apply Kd.R_drew)); exact HO_4.out) (Kd.R_base ho22) hb)
                        have n1_ := Asd.mk (Kd.R_elder' (by (with_reducible repeat (first | apply Kd.R_alloc | apply Kd.R_drewN | apply Kd.R_drew)); exact HO_5.out) (Kd.R_base ho22) hb)
                        have n2_ := Asd.mk (Kd.V_elder' (by (with_reducible repeat (first | apply Kd.V_alloc | apply Kd.V_drewN | apply Kd.V_drew)); exact HO_17.out) (Kd.R_base ho22) hb)
                        have n3_ := Asd.mk (Kd.V_elder' (by (with_reducible repeat (first | apply Kd.V_alloc | apply Kd.V_drewN | apply Kd.V_drew)); exact HO_145005.out) (Kd.R_base ho22) hb)
                        have n4_ := Asd.mk (Kd.V_elder' (by (with_reducible repeat (first | apply Kd.V_alloc | apply Kd.V_drewN | apply Kd.V_drew)); exact HL146_5.out) (Kd.R_base ho22) hb)
                        have n5_ := Asd.mk (Kd.R_lower (Kd.R_new' (Kd.R_new' (Kd.R_newM (M := fun k_ => (w.heap.size ≤ k_)) ho22 (wSz (by repeat (first | (with_reducible first | exact HB.out | apply wAl | apply pDN | apply wDr | refine wSt ?_ GE144.out | refine wSt ?_ GE145.out | refine wSt ?_ GE147.out) | exact HB.out))) (fun k_ h_ => h_)) (Kd.R_lt (by (with_reducible repeat (first | apply Kd.R_alloc | apply Kd.R_drewN | apply Kd.R_drew)); exact HO_4.out))) (Kd.R_lt (by (with_reducible repeat (first | apply Kd.R_alloc | apply Kd.R_drewN | apply Kd.R_drew)); exact HO_5.out))) (wSz (by repeat (first | (with_reducible first | exact HB.out | apply wAl | apply pDN | apply wDr | refine wSt ?_ GE144.out | refine wSt ?_ GE145.out | refine wSt ?_ GE147.out) | exact HB.out))))
                        have n6_ := Asd.mk (blk_below (g := gb144) (o := .cells #[.int .i64 a0_0, .int .i64 a0_1, .int .i64 a0_2, .int .i64 a0_3, .string a0_4, .slice (some ad146) l0_5.length c0_5] 24 (0, 0)) (by (with_reducible repeat (first | refine bDN ?_ _ | refine bDr ?_ | refine bAl ?_ _)); exact BK144.out) hb)
                        have n7_ := Asd.mk (blk_below (g := gb145) (o := .cells #[.int .i64 x146000_1, .int .i64 x146001_1, .int .i64 x146002_1, .int .i64 x146003_1, .string x146004_1, .slice none 0 0] 24 (0, 0)) (by (with_reducible repeat (first | refine bDN ?_ _ | refine bDr ?_ | refine bAl ?_ _)); exact BK145.out) hb)
                        have n8_ := Asd.mk (blk_below (g := gb147) (o := .cells #[.int .i64 ((rd_T24 l0_5 x19_1).f0), .int .i64 ((rd_T24 l0_5 x19_1).f1), .int .i64 ((rd_T24 l0_5 x19_1).f2), .int .i64 ((rd_T24 l0_5 x19_1).f3), .string ((rd_T24 l0_5 x19_1).f4), .slice A146_5 ((rd_T24 l0_5 x19_1).f5).length c146_5] 24 (0, 0)) (by (with_reducible repeat (first | refine bDN ?_ _ | refine bDr ?_ | refine bAl ?_ _)); exact BK147.out) hb)
                        have n9_ := Asd.mk (wSp (by repeat (first | (with_reducible first | exact HB.out | apply wAl | apply pDN | apply wDr | refine wSt ?_ GE144.out | refine wSt ?_ GE145.out | refine wSt ?_ GE147.out) | exact HB.out)) hb)
                        clear HO_4
                        clear HO_5
                        clear HO_17
                        clear HO_145005
                        clear HL146_5
                        clear BK144
                        clear BK145
                        clear BK147
                        clear HB
                        have HO_4 := n0_
                        have HO_5 := n1_
                        have HO_17 := n2_
                        have HO_145005 := n3_
                        have HL146_5 := n4_
                        have HO156 := n5_
                        have BK144 := n6_
                        have BK145 := n7_
                        have BK147 := n8_
                        have HB := n9_
                        clear n0_ n1_ n2_ n3_ n4_ n5_ n6_ n7_ n8_ n9_
                        clear hb ho22
                        refine hK.out _ _ ⟨(bCl BK147.out 0).trans rfl, (bCl BK147.out 1).trans rfl, (bCl BK147.out 2).trans rfl, (bCl BK147.out 3).trans rfl, (bCl BK147.out 4).trans rfl, (bCl BK147.out 5).trans rfl⟩ (fun hHeld => ?_)
                        clear hK K
                        refine norm_ (a' := ?_) ?_ ?_
                        rotate_left
                        · show Act.put _ (some 35) _ = _
                          simp only [Act.put, List.setIfInBounds_toArray, List.set_cons_zero, List.set_cons_succ, i64_w, i32_w]
                          rfl
                        refine one_ (i := 3) (N := some 30) #[true, true, true, true, false, true, true, true, true, false, false, false] rfl rfl (one_of HT_.out (by kernel_rfl)) (by decide) (fun K hK => ?_)
                        refine Kd.R_lit_step (Kd.int .i64) _ 3 ?hg (N := 30) ?hd (xs := ([(rd_T24 l0_5 x19_1).f2] : List Int)) (inner := [.int .i64 ((rd_T24 l0_5 x19_1).f2)]) (ok := fun _ => True) (okp := fun _ => True) ?hr ?hp (fun _ hk => hk) trivial (Below.refl _ _) (Nat.le_refl _) (by simp) ?_; (case hd => rfl); (case hg => rfl); (case hr => first | (go_simp; done) | (go_simp; rfl)); (case hp => exact (Reps.one (show Kd.M (Kd.int .i64) _ _ _ ((rd_T24 l0_5 x19_1).f2) [.int .i64 ((rd_T24 l0_5 x19_1).f2)] from rfl) (Reps.none _ _)))
                        intro v149 w23 ho24 hb hg_ hnew_
                        clear hg_ hnew_
                        (first | rw [← Ny148.out] at ho24 | (simp only [Int.reduceToNat] at ho24; rw [← Ny148.out] at ho24))
                        have n0_ := Asd.mk (Kd.R_elder' (by (with_reducible repeat (first | apply Kd.R_alloc | apply Kd.R_drewN | apply Kd.R_drew)); exact HO_4.out) (Kd.R_base ho24) hb)
                        have n1_ := Asd.mk (Kd.R_elder' (by (with_reducible repeat (first | apply Kd.R_alloc | apply Kd.R_drewN | apply Kd.R_drew)); exact HO_5.out) (Kd.R_base ho24) hb)
                        have n2_ := Asd.mk (Kd.V_elder' (by (with_reducible repeat (first | apply Kd.V_alloc | apply Kd.V_drewN | apply Kd.V_drew)); exact HO_17.out) (Kd.R_base ho24) hb)
                        have n3_ := Asd.mk (Kd.V_elder' (by (with_reducible repeat (first | apply Kd.V_alloc | apply Kd.V_drewN | apply Kd.V_drew)); exact HO_145005.out) (Kd.R_base ho24) hb)
                        have n4_ := Asd.mk (Kd.V_elder' (by (with_reducible repeat (first | apply Kd.V_alloc | apply Kd.V_drewN | apply Kd.V_drew)); exact HL146_5.out) (Kd.R_base ho24) hb)
                        have n5_ := Asd.mk (Kd.R_elder' (by (with_reducible repeat (first | apply Kd.R_alloc | apply Kd.R_drewN | apply Kd.R_drew)); exact HO156.out) (Kd.R_base ho24) hb)
                        have n6_ := Asd.mk (Kd.R_lower (Kd.R_new' (Kd.R_new' (Kd.R_new' (Kd.R_newM (M := fun k_ => (w.heap.size ≤ k_)) ho24 (wSz (by repeat (first | (with_reducible first | exact HB.out | apply wAl | apply pDN | apply wDr | refine wSt ?_ GE144.out | refine wSt ?_ GE145.out | refine wSt ?_ GE147.out) | exact HB.out))) (fun k_ h_ => h_)) (Kd.R_lt (by (with_reducible repeat (first | apply Kd.R_alloc | apply Kd.R_drewN | apply Kd.R_drew)); exact HO_4.out))) (Kd.R_lt (by (with_reducible repeat (first | apply Kd.R_alloc | apply Kd.R_drewN | apply Kd.R_drew)); exact HO_5.out))) (Kd.R_lt (by (with_reducible repeat (first | apply Kd.R_alloc | apply Kd.R_drewN | apply Kd.R_drew)); exact HO156.out))) (wSz (by repeat (first | (with_reducible first | exact HB.out | apply wAl | apply pDN | apply wDr | refine wSt ?_ GE144.out | refine wSt ?_ GE145.out | refine wSt ?_ GE147.out) | exact HB.out))))
                        have n7_ := Asd.mk (blk_below (g := gb144) (o := .cells #[.int .i64 a0_0, .int .i64 a0_1, .int .i64 a0_2, .int .i64 a0_3, .string a0_4, .slice (some ad146) l0_5.length c0_5] 24 (0, 0)) (by (with_reducible repeat (first | refine bDN ?_ _ | refine bDr ?_ | refine bAl ?_ _)); exact BK144.out) hb)
                        have n8_ := Asd.mk (blk_below (g := gb145) (o := .cells #[.int .i64 x146000_1, .int .i64 x146001_1, .int .i64 x146002_1, .int .i64 x146003_1, .string x146004_1, .slice none 0 0] 24 (0, 0)) (by (with_reducible repeat (first | refine bDN ?_ _ | refine bDr ?_ | refine bAl ?_ _)); exact BK145.out) hb)
                        have n9_ := Asd.mk (blk_below (g := gb147) (o := .cells #[.int .i64 ((rd_T24 l0_5 x19_1).f0), .int .i64 ((rd_T24 l0_5 x19_1).f1), .int .i64 ((rd_T24 l0_5 x19_1).f2), .int .i64 ((rd_T24 l0_5 x19_1).f3), .string ((rd_T24 l0_5 x19_1).f4), .slice A146_5 ((rd_T24 l0_5 x19_1).f5).length c146_5] 24 (0, 0)) (by (with_reducible repeat (first | refine bDN ?_ _ | refine bDr ?_ | refine bAl ?_ _)); exact BK147.out) hb)
                        have n10_ := Asd.mk (wSp (by repeat (first | (with_reducible first | exact HB.out | apply wAl | apply pDN | apply wDr | refine wSt ?_ GE144.out | refine wSt ?_ GE145.out | refine wSt ?_ GE147.out) | exact HB.out)) hb)
                        clear HO_4
                        clear HO_5
                        clear HO_17
                        clear HO_145005
                        clear HL146_5
                        clear HO156
                        clear BK144
                        clear BK145
                        clear BK147
                        clear HB
                        have HO_4 := n0_
                        have HO_5 := n1_
                        have HO_17 := n2_
                        have HO_145005 := n3_
                        have HL146_5 := n4_
                        have HO156 := n5_
                        have HO150 := n6_
                        have BK144 := n7_
                        have BK145 := n8_
                        have BK147 := n9_
                        have HB := n10_
                        clear n0_ n1_ n2_ n3_ n4_ n5_ n6_ n7_ n8_ n9_ n10_
                        clear hb ho24
                        obtain ⟨Ao26, co26, eo26⟩ := Kd.R_slice HO150.out
                        (first | subst eo26 | (injection eo26 with f1_ f2_ f3_; have f4_ := f1_.symm; have f5_ := f3_.symm; clear f1_ f2_ f3_; subst f4_; subst f5_))
                        refine hK.out _ _ ⟨(bCl BK147.out 0).trans rfl, (bCl BK147.out 1).trans rfl, (bCl BK147.out 2).trans rfl, (bCl BK147.out 3).trans rfl, (bCl BK147.out 4).trans rfl, (bCl BK147.out 5).trans rfl⟩ (fun hHeld => ?_)
                        clear hK K
                        refine norm_ (a' := ?_) ?_ ?_
                        rotate_left
                        · show Act.put _ (some 30) _ = _
                          simp only [Act.put, List.setIfInBounds_toArray, List.set_cons_zero, List.set_cons_succ, i64_w, i32_w]
                          rfl
                        refine one_ (i := 4) (N := some 31) #[true, true, true, true, true, true, true, true, true, false, false, false] rfl rfl (one_of HT_.out (by kernel_rfl)) (by decide) (fun K hK => ?_)
                        refine Kd.R_append_rows_step (Kd.int .i64) (w0 := w) w.heap.size (by rfl) (.tmp 27) (.tmp 30) 33 3 (.int .i64 0) 8 rfl Try.underlying33 info3 rfl (by decide) (by omega) (.slice Ao17 x4_1.length co17) x4_1 y148 _ _ _ (fun k_ => (w.heap.size ≤ k_) ∧ some k_ ≠ (.slice Ao18 x5_1.length co18 : Value).ownBlock ∧ some k_ ≠ (v155 : Value).ownBlock ∧ some k_ ≠ (.slice Ao26 y148.length co26 : Value).ownBlock) (fun _ => False) rfl rfl ?aO ?aR (fun _ _ h => h) (fun _ h => h.elim) ?aF ?aB ?aS ?aL ?_
                        (case aR => repeat (first | exact (Kd.R_reads' HO150.out).2.2 | (with_reducible refine Kd.C_alloc ?_ _) | (with_reducible refine Kd.C_drewN ?_ _) | (with_reducible refine Kd.C_drew ?_)))
                        (case aB => exact (by repeat (first | (with_reducible first | exact HB.out | apply wAl | apply pDN | apply wDr | refine wSt ?_ GE144.out | refine wSt ?_ GE145.out | refine wSt ?_ GE147.out) | exact HB.out)))
                        (case aF => exact (fun k_ hk => ⟨(Nat.le_trans (wSz (by repeat (first | (with_reducible first | exact HB.out | apply wAl | apply pDN | apply wDr | refine wSt ?_ GE144.out | refine wSt ?_ GE145.out | refine wSt ?_ GE147.out) | exact HB.out))) hk), Kd.fresh' (Kd.R_lt (by (with_reducible repeat (first | apply Kd.R_alloc | apply Kd.R_drewN | apply Kd.R_drew)); exact HO_5.out)) k_ hk, Kd.fresh' (Kd.R_lt (by (with_reducible repeat (first | apply Kd.R_alloc | apply Kd.R_drewN | apply Kd.R_drew)); exact HO156.out)) k_ hk, Kd.fresh' (Kd.R_lt (by (with_reducible repeat (first | apply Kd.R_alloc | apply Kd.R_drewN | apply Kd.R_drew)); exact HO150.out)) k_ hk⟩))
                        (case aO => exact (by (with_reducible repeat (first | apply Kd.R_alloc | apply Kd.R_drewN | apply Kd.R_drew)); exact Kd.R_mono HO_4.out (fun _ hk => ⟨hk.1.1.1, ⟨hk.1.1.2, ⟨hk.1.2, hk.2⟩⟩⟩)))
                        (case aS => exact (wSz (by repeat (first | (with_reducible first | exact HB.out | apply wAl | apply pDN | apply wDr | refine wSt ?_ GE144.out | refine wSt ?_ GE145.out | refine wSt ?_ GE147.out) | exact HB.out))))
                        (case aL => have := LMc11.out; omega)
                        intro v152 w25 ho hb hg hat
                        rw [← Ny151.out] at ho
                        have n0_ := Asd.mk (Kd.R_after (ok := (fun k_ => (w.heap.size ≤ k_) ∧ some k_ ≠ (v155 : Value).ownBlock ∧ some k_ ≠ (.slice Ao26 y148.length co26 : Value).ownBlock)) (by (with_reducible repeat (first | apply Kd.R_alloc | apply Kd.R_drewN | apply Kd.R_drew)); exact Kd.R_mono HO_5.out (fun _ hk => ⟨⟨hk.1.1.1, ⟨hk.1.2, hk.2⟩⟩, hk.1.1.2⟩)) hg hat)
                        have n1_ := Asd.mk (Kd.V_afterv (ok := (fun k_ => (P0_5_ k_ ∨ w.heap.size ≤ k_) ∧ some k_ ≠ (.slice Ao18 x5_1.length co18 : Value).ownBlock ∧ some k_ ≠ (v155 : Value).ownBlock ∧ some k_ ≠ (.slice Ao26 y148.length co26 : Value).ownBlock ∧ k_ ≠ gb144 ∧ k_ ≠ gb145 ∧ k_ ≠ gb147)) (by (with_reducible repeat (first | apply Kd.V_alloc | apply Kd.V_drewN | apply Kd.V_drew)); exact Kd.V_mono HO_17.out (fun _ hk => ⟨⟨hk.1.1.1, ⟨hk.1.1.2.2.1, ⟨hk.1.2, ⟨hk.2, ⟨hk.1.1.2.2.2.1, ⟨hk.1.1.2.2.2.2.1, hk.1.1.2.2.2.2.2⟩⟩⟩⟩⟩⟩, hk.1.1.2.1⟩)) hg hat)
                        have n2_ := Asd.mk (Kd.V_afterv (ok := (fun k_ => (P0_5_ k_ ∨ w.heap.size ≤ k_) ∧ some k_ ≠ (.slice Ao18 x5_1.length co18 : Value).ownBlock ∧ some k_ ≠ (v155 : Value).ownBlock ∧ some k_ ≠ (.slice Ao26 y148.length co26 : Value).ownBlock ∧ k_ ≠ gb144 ∧ k_ ≠ gb145 ∧ k_ ≠ gb147)) (by (with_reducible repeat (first | apply Kd.V_alloc | apply Kd.V_drewN | apply Kd.V_drew)); exact Kd.V_mono HO_145005.out (fun _ hk => ⟨⟨hk.1.1.1, ⟨hk.1.1.2.2.1, ⟨hk.1.2, ⟨hk.2, ⟨hk.1.1.2.2.2.1, ⟨hk.1.1.2.2.2.2.1, hk.1.1.2.2.2.2.2⟩⟩⟩⟩⟩⟩, hk.1.1.2.1⟩)) hg hat)
                        have n3_ := Asd.mk (blk_grown (g := gb144) (o := .cells #[.int .i64 a0_0, .int .i64 a0_1, .int .i64 a0_2, .int .i64 a0_3, .string a0_4, .slice (some ad146) l0_5.length c0_5] 24 (0, 0)) (by (with_reducible repeat (first | refine bDN ?_ _ | refine bDr ?_ | refine bAl ?_ _)); exact BK144.out) hg (Kd.R_ne HO_4.out BK144.out (by decide)))
                        have n4_ := Asd.mk (blk_grown (g := gb145) (o := .cells #[.int .i64 x146000_1, .int .i64 x146001_1, .int .i64 x146002_1, .int .i64 x146003_1, .string x146004_1, .slice none 0 0] 24 (0, 0)) (by (with_reducible repeat (first | refine bDN ?_ _ | refine bDr ?_ | refine bAl ?_ _)); exact BK145.out) hg (Kd.R_ne HO_4.out BK145.out (by decide)))
                        have n5_ := Asd.mk (Kd.V_afterv (ok := (fun k_ => (P0_5_ k_ ∨ w.heap.size ≤ k_) ∧ some k_ ≠ (.slice Ao18 x5_1.length co18 : Value).ownBlock ∧ some k_ ≠ (v155 : Value).ownBlock ∧ some k_ ≠ (.slice Ao26 y148.length co26 : Value).ownBlock ∧ k_ ≠ gb144 ∧ k_ ≠ gb145 ∧ k_ ≠ gb147)) (by (with_reducible repeat (first | apply Kd.V_alloc | apply Kd.V_drewN | apply Kd.V_drew)); exact Kd.V_mono HL146_5.out (fun _ hk => ⟨⟨hk.1.1.1, ⟨hk.1.1.2.2.1, ⟨hk.1.2, ⟨hk.2, ⟨hk.1.1.2.2.2.1, ⟨hk.1.1.2.2.2.2.1, hk.1.1.2.2.2.2.2⟩⟩⟩⟩⟩⟩, hk.1.1.2.1⟩)) hg hat)
                        have n6_ := Asd.mk (blk_grown (g := gb147) (o := .cells #[.int .i64 ((rd_T24 l0_5 x19_1).f0), .int .i64 ((rd_T24 l0_5 x19_1).f1), .int .i64 ((rd_T24 l0_5 x19_1).f2), .int .i64 ((rd_T24 l0_5 x19_1).f3), .string ((rd_T24 l0_5 x19_1).f4), .slice A146_5 ((rd_T24 l0_5 x19_1).f5).length c146_5] 24 (0, 0)) (by (with_reducible repeat (first | refine bDN ?_ _ | refine bDr ?_ | refine bAl ?_ _)); exact BK147.out) hg (Kd.R_ne HO_4.out BK147.out (by decide)))
                        have n7_ := Asd.mk (Kd.R_after (ok := (fun k_ => (w.heap.size ≤ k_) ∧ some k_ ≠ (.slice Ao18 x5_1.length co18 : Value).ownBlock ∧ some k_ ≠ (.slice Ao26 y148.length co26 : Value).ownBlock)) (by (with_reducible repeat (first | apply Kd.R_alloc | apply Kd.R_drewN | apply Kd.R_drew)); exact Kd.R_mono HO156.out (fun _ hk => ⟨⟨hk.1.1.1.1, ⟨hk.1.2, hk.2⟩⟩, hk.1.1.2⟩)) hg hat)
                        have n8_ := Asd.mk (Kd.R_after (ok := (fun k_ => (w.heap.size ≤ k_) ∧ some k_ ≠ (.slice Ao18 x5_1.length co18 : Value).ownBlock ∧ some k_ ≠ (v155 : Value).ownBlock)) (by (with_reducible repeat (first | apply Kd.R_alloc | apply Kd.R_drewN | apply Kd.R_drew)); exact Kd.R_mono HO150.out (fun _ hk => ⟨⟨hk.1.1.1.1, ⟨hk.1.2, hk.2⟩⟩, hk.1.1.2⟩)) hg hat)
                        have n9_ := Asd.mk (hb)
                        have n10_ := Asd.mk (ho)
                        clear HO_5
                        clear HO_17
                        clear HO_145005
                        clear BK144
                        clear BK145
                        clear HL146_5
                        clear BK147
                        clear HO156
                        clear HO150
                        clear HB
                        clear HO_4
                        have HO_5 := n0_
                        have HO_17 := n1_
                        have HO_145005 := n2_
                        have BK144 := n3_
                        have BK145 := n4_
                        have HL146_5 := n5_
                        have BK147 := n6_
                        have HO156 := n7_
                        have HO150 := n8_
                        have HB := n9_
                        have HO153 := n10_
                        clear n0_ n1_ n2_ n3_ n4_ n5_ n6_ n7_ n8_ n9_ n10_
                        clear ho hb hg hat
                        refine hK.out _ _ ⟨(bCl BK147.out 0).trans rfl, (bCl BK147.out 1).trans rfl, (bCl BK147.out 2).trans rfl, (bCl BK147.out 3).trans rfl, (bCl BK147.out 4).trans rfl, (bCl BK147.out 5).trans rfl⟩ (fun hHeld => ?_)
                        clear hK K
                        refine norm_ (a' := ?_) ?_ ?_
                        rotate_left
                        · show Act.put _ (some 31) _ = _
                          simp only [Act.put, List.setIfInBounds_toArray, List.set_cons_zero, List.set_cons_succ, i64_w, i32_w]
                          rfl
                        exact norm_ (by simp only [putAll, Act.put, List.setIfInBounds_toArray, List.set_cons_zero, List.set_cons_succ]) (hCont (.slice Ao26 y148.length co26, v152, v155) _ ⟨hHeld, (by (with_reducible repeat (first | apply Kd.V_alloc | apply Kd.V_drewN | apply Kd.V_drew)); exact Kd.V_mono HL146_5.out (fun _ hk => ⟨hk.1.1, ⟨hk.1.2.2.2.1, ⟨hk.2, ⟨hk.1.2.2.1, ⟨hk.1.2.1, ⟨hk.1.2.2.2.2.1, ⟨hk.1.2.2.2.2.2.1, hk.1.2.2.2.2.2.2⟩⟩⟩⟩⟩⟩⟩)), (by (with_reducible repeat (first | apply Kd.R_alloc | apply Kd.R_drewN | apply Kd.R_drew)); exact Kd.R_mono HO150.out (fun _ hk => ⟨hk.1.1, ⟨hk.2, ⟨hk.1.2.2, hk.1.2.1⟩⟩⟩)), (by (with_reducible repeat (first | apply Kd.R_alloc | apply Kd.R_drewN | apply Kd.R_drew)); exact Kd.R_mono HO153.out (fun _ hk => ⟨hk.1, ⟨hk.2.2.2, ⟨hk.2.2.1, hk.2.1⟩⟩⟩)), (by (with_reducible repeat (first | apply Kd.R_alloc | apply Kd.R_drewN | apply Kd.R_drew)); exact Kd.R_mono HO156.out (fun _ hk => ⟨hk.1.1, ⟨hk.1.2.2, ⟨hk.2, hk.1.2.1⟩⟩⟩)), (by (with_reducible repeat (first | apply Kd.V_alloc | apply Kd.V_drewN | apply Kd.V_drew)); exact Kd.V_mono HO_145005.out (fun _ hk => ⟨hk.1.1, ⟨hk.1.2.2.2.1, ⟨hk.2, ⟨hk.1.2.2.1, ⟨hk.1.2.1, ⟨hk.1.2.2.2.2.1, ⟨hk.1.2.2.2.2.2.1, hk.1.2.2.2.2.2.2⟩⟩⟩⟩⟩⟩⟩)), (by (with_reducible repeat (first | apply Kd.V_alloc | apply Kd.V_drewN | apply Kd.V_drew)); exact Kd.V_mono HO_17.out (fun _ hk => ⟨hk.1.1, ⟨hk.1.2.2.2.1, ⟨hk.2, ⟨hk.1.2.2.1, ⟨hk.1.2.1, ⟨hk.1.2.2.2.2.1, ⟨hk.1.2.2.2.2.2.1, hk.1.2.2.2.2.2.2⟩⟩⟩⟩⟩⟩⟩)), (by (with_reducible repeat (first | apply Kd.R_alloc | apply Kd.R_drewN | apply Kd.R_drew)); exact Kd.R_mono HO_5.out (fun _ hk => ⟨hk.1.1, ⟨hk.1.2.2, ⟨hk.2, hk.1.2.1⟩⟩⟩)), (by (with_reducible repeat (first | refine bDN ?_ _ | refine bDr ?_ | refine bAl ?_ _)); exact BK144.out), (by (with_reducible repeat (first | refine bDN ?_ _ | refine bDr ?_ | refine bAl ?_ _)); exact BK145.out), (by (with_reducible repeat (first | refine bDN ?_ _ | refine bDr ?_ | refine bAl ?_ _)); exact BK147.out), (by repeat (first | (with_reducible first | exact HB.out | apply wAl | apply pDN | apply wDr | refine wSt ?_ GE144.out | refine wSt ?_ GE145.out | refine wSt ?_ GE147.out) | exact HB.out))⟩)
                    rintro ⟨v149, v152, v155⟩ w27 ⟨hS_, h0_, h1_, h2_, h3_, h4_, h5_, h6_, h7_, h8_, h9_, h10_⟩
                    have n0_ : Asd (Kd.V k24 24 w27 w.heap.size (fun k_ => (P0_5_ k_ ∨ w.heap.size ≤ k_) ∧ some k_ ≠ (v149 : Value).ownBlock ∧ some k_ ≠ (v152 : Value).ownBlock ∧ some k_ ≠ (v155 : Value).ownBlock ∧ some k_ ≠ (.slice Ao18 x5_1.length co18 : Value).ownBlock ∧ k_ ≠ gb144 ∧ k_ ≠ gb145 ∧ k_ ≠ gb147) (.slice A146_5 ((rd_T24 l0_5 x19_1).f5).length c146_5) ((rd_T24 l0_5 x19_1).f5)) := ⟨h0_⟩
                    have n1_ : Asd (Kd.R (Kd.int .i64) 3 w27 w.heap.size (fun k_ => (w.heap.size ≤ k_) ∧ some k_ ≠ (v152 : Value).ownBlock ∧ some k_ ≠ (v155 : Value).ownBlock ∧ some k_ ≠ (.slice Ao18 x5_1.length co18 : Value).ownBlock) v149 y148) := ⟨h1_⟩
                    have n2_ : Asd (Kd.R (Kd.int .i64) 3 w27 w.heap.size (fun k_ => (w.heap.size ≤ k_) ∧ some k_ ≠ (v149 : Value).ownBlock ∧ some k_ ≠ (v155 : Value).ownBlock ∧ some k_ ≠ (.slice Ao18 x5_1.length co18 : Value).ownBlock) v152 y151) := ⟨h2_⟩
                    have n3_ : Asd (Kd.R (Kd.int .i64) 3 w27 w.heap.size (fun k_ => (w.heap.size ≤ k_) ∧ some k_ ≠ (v149 : Value).ownBlock ∧ some k_ ≠ (v152 : Value).ownBlock ∧ some k_ ≠ (.slice Ao18 x5_1.length co18 : Value).ownBlock) v155 y154) := ⟨h3_⟩
                    have n4_ : Asd (Kd.V k24 24 w27 w.heap.size (fun k_ => (P0_5_ k_ ∨ w.heap.size ≤ k_) ∧ some k_ ≠ (v149 : Value).ownBlock ∧ some k_ ≠ (v152 : Value).ownBlock ∧ some k_ ≠ (v155 : Value).ownBlock ∧ some k_ ≠ (.slice Ao18 x5_1.length co18 : Value).ownBlock ∧ k_ ≠ gb144 ∧ k_ ≠ gb145 ∧ k_ ≠ gb147) (.slice (some ad146) l0_5.length c0_5) l0_5) := ⟨h4_⟩
                    have n5_ : Asd (Kd.V k24 24 w27 w.heap.size (fun k_ => (P0_5_ k_ ∨ w.heap.size ≤ k_) ∧ some k_ ≠ (v149 : Value).ownBlock ∧ some k_ ≠ (v152 : Value).ownBlock ∧ some k_ ≠ (v155 : Value).ownBlock ∧ some k_ ≠ (.slice Ao18 x5_1.length co18 : Value).ownBlock ∧ k_ ≠ gb144 ∧ k_ ≠ gb145 ∧ k_ ≠ gb147) (.slice (some ad146) l0_5.length c0_5) l0_5) := ⟨h5_⟩
                    have n6_ : Asd (Kd.R (Kd.int .i64) 3 w27 w.heap.size (fun k_ => (w.heap.size ≤ k_) ∧ some k_ ≠ (v149 : Value).ownBlock ∧ some k_ ≠ (v152 : Value).ownBlock ∧ some k_ ≠ (v155 : Value).ownBlock) (.slice Ao18 x5_1.length co18) x5_1) := ⟨h6_⟩
                    have n7_ : Asd (w27.heap[gb144]? = some (.cells #[.int .i64 a0_0, .int .i64 a0_1, .int .i64 a0_2, .int .i64 a0_3, .string a0_4, .slice (some ad146) l0_5.length c0_5] 24 (0, 0))) := ⟨h7_⟩
                    have n8_ : Asd (w27.heap[gb145]? = some (.cells #[.int .i64 x146000_1, .int .i64 x146001_1, .int .i64 x146002_1, .int .i64 x146003_1, .string x146004_1, .slice none 0 0] 24 (0, 0))) := ⟨h8_⟩
                    have n9_ : Asd (w27.heap[gb147]? = some (.cells #[.int .i64 ((rd_T24 l0_5 x19_1).f0), .int .i64 ((rd_T24 l0_5 x19_1).f1), .int .i64 ((rd_T24 l0_5 x19_1).f2), .int .i64 ((rd_T24 l0_5 x19_1).f3), .string ((rd_T24 l0_5 x19_1).f4), .slice A146_5 ((rd_T24 l0_5 x19_1).f5).length c146_5] 24 (0, 0))) := ⟨h9_⟩
                    have n10_ : Asd (Below w.heap.size w w27) := ⟨h10_⟩
                    clear HO_4
                    clear HO_5
                    clear HO_17
                    clear HO_145005
                    clear HL146_5
                    clear BK144
                    clear BK145
                    clear BK147
                    clear HB
                    clear h0_ h1_ h2_ h3_ h4_ h5_ h6_ h7_ h8_ h9_ h10_
                    have HL146_5 := n0_
                    have HO150 := n1_
                    have HO153 := n2_
                    have HO156 := n3_
                    have HO_145005 := n4_
                    have HO_17 := n5_
                    have HO_5 := n6_
                    have BK144 := n7_
                    have BK145 := n8_
                    have BK147 := n9_
                    have HB := n10_
                    clear n0_ n1_ n2_ n3_ n4_ n5_ n6_ n7_ n8_ n9_ n10_
                    have hHeld : w27.cell? ⟨gb147, 0, none⟩ = some (.int .i64 ((rd_T24 l0_5 x19_1).f0)) ∧ w27.cell? ⟨gb147, 1, none⟩ = some (.int .i64 ((rd_T24 l0_5 x19_1).f1)) ∧ w27.cell? ⟨gb147, 2, none⟩ = some (.int .i64 ((rd_T24 l0_5 x19_1).f2)) ∧ w27.cell? ⟨gb147, 3, none⟩ = some (.int .i64 ((rd_T24 l0_5 x19_1).f3)) ∧ w27.cell? ⟨gb147, 4, none⟩ = some (.string ((rd_T24 l0_5 x19_1).f4)) ∧ w27.cell? ⟨gb147, 5, none⟩ = some (.slice A146_5 ((rd_T24 l0_5 x19_1).f5).length c146_5) := hS_
                    obtain ⟨Ao29, co29, eo29⟩ := Kd.R_slice HO156.out
                    (first | subst eo29 | (injection eo29 with f1_ f2_ f3_; have f4_ := f1_.symm; have f5_ := f3_.symm; clear f1_ f2_ f3_; subst f4_; subst f5_))
                    refine norm_ (a' := ?_) ?_ ?_
                    rotate_left
                    · simp only [putAll, Act.put, List.setIfInBounds_toArray, List.set_cons_zero, List.set_cons_succ]
                      rfl
                    refine one_ (i := 9) (N := some 36) #[true, true, true, true, true, true, true, true, true, true, false, false] rfl rfl (one_of HT_.out (by kernel_rfl)) (by decide) (fun K hK => ?_)
                    refine Kd.R_append_rows_step (Kd.int .i64) (w0 := w) w.heap.size (by rfl) (.tmp 32) (.tmp 35) 33 3 (.int .i64 0) 8 rfl Try.underlying33 info3 rfl (by decide) (by omega) (.slice Ao18 x5_1.length co18) x5_1 y154 _ _ _ (fun k_ => (w.heap.size ≤ k_) ∧ some k_ ≠ (v149 : Value).ownBlock ∧ some k_ ≠ (v152 : Value).ownBlock ∧ some k_ ≠ (.slice Ao29 y154.length co29 : Value).ownBlock) (fun _ => False) rfl rfl ?aO ?aR (fun _ _ h => h) (fun _ h => h.elim) ?aF ?aB ?aS ?aL ?_
                    (case aR => repeat (first | exact (Kd.R_reads' HO156.out).2.2 | (with_reducible refine Kd.C_alloc ?_ _) | (with_reducible refine Kd.C_drewN ?_ _) | (with_reducible refine Kd.C_drew ?_)))
                    (case aB => exact (by repeat (first | (with_reducible first | exact HB.out | apply wAl | apply pDN | apply wDr | refine wSt ?_ GE144.out | refine wSt ?_ GE145.out | refine wSt ?_ GE147.out) | exact HB.out)))
                    (case aF => exact (fun k_ hk => ⟨(Nat.le_trans (wSz (by repeat (first | (with_reducible first | exact HB.out | apply wAl | apply pDN | apply wDr | refine wSt ?_ GE144.out | refine wSt ?_ GE145.out | refine wSt ?_ GE147.out) | exact HB.out))) hk), Kd.fresh' (Kd.R_lt (by (with_reducible repeat (first | apply Kd.R_alloc | apply Kd.R_drewN | apply Kd.R_drew)); exact HO150.out)) k_ hk, Kd.fresh' (Kd.R_lt (by (with_reducible repeat (first | apply Kd.R_alloc | apply Kd.R_drewN | apply Kd.R_drew)); exact HO153.out)) k_ hk, Kd.fresh' (Kd.R_lt (by (with_reducible repeat (first | apply Kd.R_alloc | apply Kd.R_drewN | apply Kd.R_drew)); exact HO156.out)) k_ hk⟩))
                    (case aO => exact (by (with_reducible repeat (first | apply Kd.R_alloc | apply Kd.R_drewN | apply Kd.R_drew)); exact HO_5.out))
                    (case aS => exact (wSz (by repeat (first | (with_reducible first | exact HB.out | apply wAl | apply pDN | apply wDr | refine wSt ?_ GE144.out | refine wSt ?_ GE145.out | refine wSt ?_ GE147.out) | exact HB.out))))
                    (case aL => have := LMc12.out; omega)
                    intro v158 w28 ho hb hg hat
                    rw [← Ny157.out] at ho
                    have n0_ := Asd.mk (Kd.V_afterv (ok := (fun k_ => (P0_5_ k_ ∨ w.heap.size ≤ k_) ∧ some k_ ≠ (v149 : Value).ownBlock ∧ some k_ ≠ (v152 : Value).ownBlock ∧ some k_ ≠ (.slice Ao29 y154.length co29 : Value).ownBlock ∧ k_ ≠ gb144 ∧ k_ ≠ gb145 ∧ k_ ≠ gb147)) (by (with_reducible repeat (first | apply Kd.V_alloc | apply Kd.V_drewN | apply Kd.V_drew)); exact Kd.V_mono HO_17.out (fun _ hk => ⟨⟨hk.1, ⟨hk.2.1, ⟨hk.2.2.1, ⟨hk.2.2.2.1, ⟨hk.2.2.2.2.2.1, ⟨hk.2.2.2.2.2.2.1, hk.2.2.2.2.2.2.2⟩⟩⟩⟩⟩⟩, hk.2.2.2.2.1⟩)) hg hat)
                    have n1_ := Asd.mk (Kd.V_afterv (ok := (fun k_ => (P0_5_ k_ ∨ w.heap.size ≤ k_) ∧ some k_ ≠ (v149 : Value).ownBlock ∧ some k_ ≠ (v152 : Value).ownBlock ∧ some k_ ≠ (.slice Ao29 y154.length co29 : Value).ownBlock ∧ k_ ≠ gb144 ∧ k_ ≠ gb145 ∧ k_ ≠ gb147)) (by (with_reducible repeat (first | apply Kd.V_alloc | apply Kd.V_drewN | apply Kd.V_drew)); exact Kd.V_mono HO_145005.out (fun _ hk => ⟨⟨hk.1, ⟨hk.2.1, ⟨hk.2.2.1, ⟨hk.2.2.2.1, ⟨hk.2.2.2.2.2.1, ⟨hk.2.2.2.2.2.2.1, hk.2.2.2.2.2.2.2⟩⟩⟩⟩⟩⟩, hk.2.2.2.2.1⟩)) hg hat)
                    have n2_ := Asd.mk (blk_grown (g := gb144) (o := .cells #[.int .i64 a0_0, .int .i64 a0_1, .int .i64 a0_2, .int .i64 a0_3, .string a0_4, .slice (some ad146) l0_5.length c0_5] 24 (0, 0)) (by (with_reducible repeat (first | refine bDN ?_ _ | refine bDr ?_ | refine bAl ?_ _)); exact BK144.out) hg (Kd.R_ne HO_5.out BK144.out (by decide)))
                    have n3_ := Asd.mk (blk_grown (g := gb145) (o := .cells #[.int .i64 x146000_1, .int .i64 x146001_1, .int .i64 x146002_1, .int .i64 x146003_1, .string x146004_1, .slice none 0 0] 24 (0, 0)) (by (with_reducible repeat (first | refine bDN ?_ _ | refine bDr ?_ | refine bAl ?_ _)); exact BK145.out) hg (Kd.R_ne HO_5.out BK145.out (by decide)))
                    have n4_ := Asd.mk (Kd.V_afterv (ok := (fun k_ => (P0_5_ k_ ∨ w.heap.size ≤ k_) ∧ some k_ ≠ (v149 : Value).ownBlock ∧ some k_ ≠ (v152 : Value).ownBlock ∧ some k_ ≠ (.slice Ao29 y154.length co29 : Value).ownBlock ∧ k_ ≠ gb144 ∧ k_ ≠ gb145 ∧ k_ ≠ gb147)) (by (with_reducible repeat (first | apply Kd.V_alloc | apply Kd.V_drewN | apply Kd.V_drew)); exact Kd.V_mono HL146_5.out (fun _ hk => ⟨⟨hk.1, ⟨hk.2.1, ⟨hk.2.2.1, ⟨hk.2.2.2.1, ⟨hk.2.2.2.2.2.1, ⟨hk.2.2.2.2.2.2.1, hk.2.2.2.2.2.2.2⟩⟩⟩⟩⟩⟩, hk.2.2.2.2.1⟩)) hg hat)
                    have n5_ := Asd.mk (blk_grown (g := gb147) (o := .cells #[.int .i64 ((rd_T24 l0_5 x19_1).f0), .int .i64 ((rd_T24 l0_5 x19_1).f1), .int .i64 ((rd_T24 l0_5 x19_1).f2), .int .i64 ((rd_T24 l0_5 x19_1).f3), .string ((rd_T24 l0_5 x19_1).f4), .slice A146_5 ((rd_T24 l0_5 x19_1).f5).length c146_5] 24 (0, 0)) (by (with_reducible repeat (first | refine bDN ?_ _ | refine bDr ?_ | refine bAl ?_ _)); exact BK147.out) hg (Kd.R_ne HO_5.out BK147.out (by decide)))
                    have n6_ := Asd.mk (Kd.R_after (ok := (fun k_ => (w.heap.size ≤ k_) ∧ some k_ ≠ (v152 : Value).ownBlock ∧ some k_ ≠ (.slice Ao29 y154.length co29 : Value).ownBlock)) (by (with_reducible repeat (first | apply Kd.R_alloc | apply Kd.R_drewN | apply Kd.R_drew)); exact Kd.R_mono HO150.out (fun _ hk => ⟨⟨hk.1, ⟨hk.2.1, hk.2.2.1⟩⟩, hk.2.2.2⟩)) hg hat)
                    have n7_ := Asd.mk (Kd.R_after (ok := (fun k_ => (w.heap.size ≤ k_) ∧ some k_ ≠ (v149 : Value).ownBlock ∧ some k_ ≠ (.slice Ao29 y154.length co29 : Value).ownBlock)) (by (with_reducible repeat (first | apply Kd.R_alloc | apply Kd.R_drewN | apply Kd.R_drew)); exact Kd.R_mono HO153.out (fun _ hk => ⟨⟨hk.1, ⟨hk.2.1, hk.2.2.1⟩⟩, hk.2.2.2⟩)) hg hat)
                    have n8_ := Asd.mk (Kd.R_after (ok := (fun k_ => (w.heap.size ≤ k_) ∧ some k_ ≠ (v149 : Value).ownBlock ∧ some k_ ≠ (v152 : Value).ownBlock)) (by (with_reducible repeat (first | apply Kd.R_alloc | apply Kd.R_drewN | apply Kd.R_drew)); exact Kd.R_mono HO156.out (fun _ hk => ⟨⟨hk.1, ⟨hk.2.1, hk.2.2.1⟩⟩, hk.2.2.2⟩)) hg hat)
                    have n9_ := Asd.mk (hb)
                    have n10_ := Asd.mk (ho)
                    clear HO_17
                    clear HO_145005
                    clear BK144
                    clear BK145
                    clear HL146_5
                    clear BK147
                    clear HO150
                    clear HO153
                    clear HO156
                    clear HB
                    clear HO_5
                    have HO_17 := n0_
                    have HO_145005 := n1_
                    have BK144 := n2_
                    have BK145 := n3_
                    have HL146_5 := n4_
                    have BK147 := n5_
                    have HO150 := n6_
                    have HO153 := n7_
                    have HO156 := n8_
                    have HB := n9_
                    have HO159 := n10_
                    clear n0_ n1_ n2_ n3_ n4_ n5_ n6_ n7_ n8_ n9_ n10_
                    clear ho hb hg hat
                    refine hK.out _ _ ⟨(bCl BK147.out 0).trans rfl, (bCl BK147.out 1).trans rfl, (bCl BK147.out 2).trans rfl, (bCl BK147.out 3).trans rfl, (bCl BK147.out 4).trans rfl, (bCl BK147.out 5).trans rfl⟩ (fun hHeld => ?_)
                    clear hK K
                    refine norm_ (a' := ?_) ?_ ?_
                    rotate_left
                    · show Act.put _ (some 36) _ = _
                      simp only [Act.put, List.setIfInBounds_toArray, List.set_cons_zero, List.set_cons_succ, i64_w, i32_w]
                      rfl
                    refine pure_ (i := 10) (N := some 4) (v := ?_) (a' := ?_) #[true, true, true, true, true, true, true, true, true, true, true, false] rfl rfl (any_of HT_.out (by kernel_rfl)) (fun _ _ _ h => h) (Or.inl ⟨by rfl, ?_⟩) ?_ ?_
                    rotate_left
                    · intro w'
                      go_simp
                      with_reducible rfl
                    rotate_left
                    · simp only [Act.put, List.setIfInBounds_toArray, List.set_cons_zero, List.set_cons_succ, i64_w, i32_w]
                      rfl
                    refine pure_ (i := 11) (N := some 5) (v := ?_) (a' := ?_) #[true, true, true, true, true, true, true, true, true, true, true, true] rfl rfl (any_of HT_.out (by kernel_rfl)) (fun _ _ _ h => h) (Or.inl ⟨by rfl, ?_⟩) ?_ ?_
                    rotate_left
                    · intro w'
                      go_simp
                      with_reducible rfl
                    rotate_left
                    · simp only [Act.put, List.setIfInBounds_toArray, List.set_cons_zero, List.set_cons_succ, i64_w, i32_w]
                      rfl
                    refine done_ (done_of HT_.out (by kernel_rfl)) ?_
                    try go_wp2
                    go_roundg k1
                    case measure => have := HK1.out; omega
                    case rel => exact ⟨(y151), (y157), (wrap64 (x19_1 + 1)), (x146000_1), (x146001_1), (x146002_1), (x146003_1), (x146004_1), (by first | rfl | (simp; done) | (simp [*]; done)), H', ⟨by have := HK1.out; omega⟩, ⟨by (with_reducible repeat (first | apply Kd.R_alloc | apply Kd.R_drewN | apply Kd.R_drew)); exact Kd.R_mono HO153.out (fun _ hk => ⟨hk.1.1, hk.2⟩)⟩, ⟨by (with_reducible repeat (first | apply Kd.R_alloc | apply Kd.R_drewN | apply Kd.R_drew)); exact Kd.R_mono HO159.out (fun _ hk => ⟨hk.1, hk.2.2.1⟩)⟩, ⟨by (with_reducible repeat (first | apply Kd.V_alloc | apply Kd.V_drewN | apply Kd.V_drew)); exact Kd.V_mono HO_17.out (fun _ hk => ⟨hk.1.1, ⟨hk.1.2.2.1, ⟨hk.2, ⟨hk.1.2.2.2.2.1, hk.1.2.2.2.2.2.1⟩⟩⟩⟩)⟩, ⟨by (with_reducible repeat (first | apply Kd.V_alloc | apply Kd.V_drewN | apply Kd.V_drew)); exact Kd.V_mono HO_145005.out (fun _ hk => ⟨hk.1.1, ⟨hk.1.2.2.1, ⟨hk.2, ⟨hk.1.2.2.2.2.1, hk.1.2.2.2.2.2.1⟩⟩⟩⟩)⟩, ⟨by (with_reducible repeat (first | refine bDN ?_ _ | refine bDr ?_ | refine bAl ?_ _)); exact BK144.out⟩, ⟨by (with_reducible repeat (first | refine bDN ?_ _ | refine bDr ?_ | refine bAl ?_ _)); exact BK145.out⟩, ⟨by repeat (first | (with_reducible first | exact HB.out | apply wAl | apply pDN | apply wDr | refine wSt ?_ GE144.out | refine wSt ?_ GE145.out | refine wSt ?_ GE147.out) | exact HB.out)⟩⟩
                  · rw [if_neg c12] at H
                    exact absurd H (by simp)
                · rw [if_neg c11] at H
                  exact absurd H (by simp)
              · rw [if_neg c10] at H
                have c10b0 : (((rd_T24 l0_5 x19_1).f0) == 1) = false := beq_eq_false_iff_ne.mpr c10
                have c10b1 : (((rd_T24 l0_5 x19_1).f0) != 1) = true := bne_iff_ne.mpr c10
                simp only [Option.some.injEq, Prod.mk.injEq] at H
                obtain ⟨rfl, rfl, rfl, rfl, rfl, rfl, rfl⟩ := H
                have p146 : 0 ≤ (x19_1 : Int) := of_decide_eq_true (by first | (with_reducible assumption) | assumption)
                have q146 : x19_1 < (l0_5.length : Int) := of_decide_eq_true (by first | (with_reducible assumption) | assumption)
                obtain ⟨ad146, A146_5, c146_5, e146, hx146_0, hx146_1, hx146_2, hx146_3, hx146_4, hx146_5, hl146_5, hi146_5⟩ := at_T24 (Kd.V_reads' HO_17.out).2.2 x19_1 p146 q146
                cases e146
                obtain ⟨ce146, hce146, hMe146, hcc146⟩ := Kd.V_get HO_17.out z24 x19_1 p146 (by first | exact q146 | exact of_decide_eq_true (by first | (with_reducible assumption) | assumption) | (have e_ := (Kd.V_reads' HO_17.out).1; omega))
                obtain ⟨ua146_5, uc146_5, rfl, ul146_5, ge146_5⟩ := k24_openF hMe146
                have hv146_5 := hcc146 5 _ rfl
                rw [add_field _ _ 5 (by omega)] at hv146_5
                replace hv146_5 := Option.some.inj (hv146_5.symm.trans hx146_5)
                injection hv146_5 with hva_ hvn_ hvc_
                rw [hva_] at ge146_5
                rw [hvc_] at ul146_5
                have HL146_5 := Asd.mk (show Kd.V k24 24 _ w.heap.size _ _ ((rd_T24 l0_5 x19_1).f5) from Kd.V_mk ul146_5 ge146_5)
                clear hva_ hvn_ hvc_ ge146_5 ul146_5
                clear hcc146 hce146
                have HR146_5 := Asd.mk hi146_5
                have HC146_5 := Asd.mk hl146_5
                clear hi146_5 hl146_5
                replace p146 := eq_true p146
                replace q146 := eq_true q146
                go_wp2_with (first | ((with_reducible refine gate_dst (N := 7) rfl ?_); refine box_event ?hg (N := 7) ?hd (cs := #[.int .i64 0, .int .i64 0, .int .i64 0, .int .i64 0, .string (⟨#[]⟩ : ByteArray), .slice none 0 0]) (t := 24) ?hr ?_; (case hd => rfl); (case hg => rfl); (case hr => first | (go_simp; done) | (go_simp; rfl)); intro gb147 hg w30 hbox hb; have n0_ := Asd.mk (Kd.R_below (by (with_reducible repeat (first | apply Kd.R_alloc | apply Kd.R_drewN | apply Kd.R_drew)); exact HO_4.out) hb); have n1_ := Asd.mk (Kd.R_below (by (with_reducible repeat (first | apply Kd.R_alloc | apply Kd.R_drewN | apply Kd.R_drew)); exact HO_5.out) hb); have n2_ := Asd.mk (Kd.V_below (Kd.V_elderB (by (with_reducible repeat (first | apply Kd.V_alloc | apply Kd.V_drewN | apply Kd.V_drew)); exact HO_17.out) gb147 (Nat.le_of_eq hg.symm)) hb); have n3_ := Asd.mk (Kd.V_below (Kd.V_elderB (by (with_reducible repeat (first | apply Kd.V_alloc | apply Kd.V_drewN | apply Kd.V_drew)); exact HO_145005.out) gb147 (Nat.le_of_eq hg.symm)) hb); have n4_ := Asd.mk (Kd.V_below (Kd.V_elderB (by (with_reducible repeat (first | apply Kd.V_alloc | apply Kd.V_drewN | apply Kd.V_drew)); exact HL146_5.out) gb147 (Nat.le_of_eq hg.symm)) hb); have n5_ := Asd.mk (blk_below (g := gb144) (o := .cells #[.int .i64 a0_0, .int .i64 a0_1, .int .i64 a0_2, .int .i64 a0_3, .string a0_4, .slice (some ad146) l0_5.length c0_5] 24 (0, 0)) (by (with_reducible repeat (first | refine bDN ?_ _ | refine bDr ?_ | refine bAl ?_ _)); exact BK144.out) hb); have n6_ := Asd.mk (blk_below (g := gb145) (o := .cells #[.int .i64 x146000_1, .int .i64 x146001_1, .int .i64 x146002_1, .int .i64 x146003_1, .string x146004_1, .slice none 0 0] 24 (0, 0)) (by (with_reducible repeat (first | refine bDN ?_ _ | refine bDr ?_ | refine bAl ?_ _)); exact BK145.out) hb); have n7_ := Asd.mk (Kd.C_below (by repeat (first | (with_reducible exact HR146_5.out) | (with_reducible refine Kd.C_alloc ?_ _) | (with_reducible refine Kd.C_drewN ?_ _) | (with_reducible refine Kd.C_drew ?_) | exact HR146_5.out)) hb); have n8_ := Asd.mk (wSp (by repeat (first | (with_reducible first | exact HB.out | apply wAl | apply pDN | apply wDr | refine wSt ?_ GE144.out | refine wSt ?_ GE145.out) | exact HB.out)) hb); have n9_ := Asd.mk (hbox); have n10_ := Asd.mk ((by rw [hg]; exact (wSz (by repeat (first | (with_reducible first | exact HB.out | apply wAl | apply pDN | apply wDr | refine wSt ?_ GE144.out | refine wSt ?_ GE145.out) | exact HB.out))) : w.heap.size ≤ gb147)); have n11_ := Asd.mk ((by rw [hg]; exact (wSz (by repeat (first | (with_reducible first | exact HB.out | apply wAl | apply pDN | apply wDr | refine wSt ?_ GE144.out | refine wSt ?_ GE145.out) | exact HB.out))) : w.heap.size ≤ gb147)); have n12_ := Asd.mk ((by rw [hg]; exact Nat.ne_of_lt (blk_lt (g := gb144) (o := .cells #[.int .i64 a0_0, .int .i64 a0_1, .int .i64 a0_2, .int .i64 a0_3, .string a0_4, .slice (some ad146) l0_5.length c0_5] 24 (0, 0)) (by (with_reducible repeat (first | refine bDN ?_ _ | refine bDr ?_ | refine bAl ?_ _)); exact BK144.out)) : gb144 ≠ gb147)); have n13_ := Asd.mk ((by rw [hg]; exact Nat.ne_of_gt (blk_lt (g := gb144) (o := .cells #[.int .i64 a0_0, .int .i64 a0_1, .int .i64 a0_2, .int .i64 a0_3, .string a0_4, .slice (some ad146) l0_5.length c0_5] 24 (0, 0)) (by (with_reducible repeat (first | refine bDN ?_ _ | refine bDr ?_ | refine bAl ?_ _)); exact BK144.out)) : gb147 ≠ gb144)); have n14_ := Asd.mk ((by rw [hg]; exact Nat.ne_of_lt (blk_lt (g := gb145) (o := .cells #[.int .i64 x146000_1, .int .i64 x146001_1, .int .i64 x146002_1, .int .i64 x146003_1, .string x146004_1, .slice none 0 0] 24 (0, 0)) (by (with_reducible repeat (first | refine bDN ?_ _ | refine bDr ?_ | refine bAl ?_ _)); exact BK145.out)) : gb145 ≠ gb147)); have n15_ := Asd.mk ((by rw [hg]; exact Nat.ne_of_gt (blk_lt (g := gb145) (o := .cells #[.int .i64 x146000_1, .int .i64 x146001_1, .int .i64 x146002_1, .int .i64 x146003_1, .string x146004_1, .slice none 0 0] 24 (0, 0)) (by (with_reducible repeat (first | refine bDN ?_ _ | refine bDr ?_ | refine bAl ?_ _)); exact BK145.out)) : gb147 ≠ gb145)); clear HO_4; clear HO_5; clear HO_17; clear HO_145005; clear HL146_5; clear BK144; clear BK145; clear HR146_5; clear HB; have HO_4 := n0_; have HO_5 := n1_; have HO_17 := n2_; have HO_145005 := n3_; have HL146_5 := n4_; have BK144 := n5_; have BK145 := n6_; have HR146_5 := n7_; have HB := n8_; have BK147 := n9_; have GW147 := n10_; have GE147 := n11_; have NB144_147 := n12_; have NB147_144 := n13_; have NB145_147 := n14_; have NB147_145 := n15_; clear n0_ n1_ n2_ n3_ n4_ n5_ n6_ n7_ n8_ n9_ n10_ n11_ n12_ n13_ n14_ n15_; clear hb hbox hg; have hnb31 := NB147_144.out; have hnc31 := NB144_147.out; have hnb32 := NB147_145.out; have hnc32 := NB145_147.out; have hcz33_0 : w30.cell? ⟨gb147, 0, none⟩ = some (.int .i64 0) := (bCl BK147.out 0).trans rfl; have hcz33_1 : w30.cell? ⟨gb147, 1, none⟩ = some (.int .i64 0) := (bCl BK147.out 1).trans rfl; have hcz33_2 : w30.cell? ⟨gb147, 2, none⟩ = some (.int .i64 0) := (bCl BK147.out 2).trans rfl; have hcz33_3 : w30.cell? ⟨gb147, 3, none⟩ = some (.int .i64 0) := (bCl BK147.out 3).trans rfl; have hcz33_4 : w30.cell? ⟨gb147, 4, none⟩ = some (.string (⟨#[]⟩ : ByteArray)) := (bCl BK147.out 4).trans rfl; have hcz33_5 : w30.cell? ⟨gb147, 5, none⟩ = some (.slice none 0 0) := (bCl BK147.out 5).trans rfl; have hfz33_0 := bFz BK147.out 0; have hfz33_1 := bFz BK147.out 1; have hfz33_2 := bFz BK147.out 2; have hfz33_3 := bFz BK147.out 3; have hfz33_4 := bFz BK147.out 4; have hfz33_5 := bFz BK147.out 5; have hnb34 := NB144_145.out; have hnc34 := NB145_144.out; have hcz35_0 : w30.cell? ⟨gb144, 0, none⟩ = some (.int .i64 a0_0) := (bCl BK144.out 0).trans rfl; have hcz35_1 : w30.cell? ⟨gb144, 1, none⟩ = some (.int .i64 a0_1) := (bCl BK144.out 1).trans rfl; have hcz35_2 : w30.cell? ⟨gb144, 2, none⟩ = some (.int .i64 a0_2) := (bCl BK144.out 2).trans rfl; have hcz35_3 : w30.cell? ⟨gb144, 3, none⟩ = some (.int .i64 a0_3) := (bCl BK144.out 3).trans rfl; have hcz35_4 : w30.cell? ⟨gb144, 4, none⟩ = some (.string a0_4) := (bCl BK144.out 4).trans rfl; have hcz35_5 : w30.cell? ⟨gb144, 5, none⟩ = some (.slice (some ad146) l0_5.length c0_5) := (bCl BK144.out 5).trans rfl; have hfz35_0 := bFz BK144.out 0; have hfz35_1 := bFz BK144.out 1; have hfz35_2 := bFz BK144.out 2; have hfz35_3 := bFz BK144.out 3; have hfz35_4 := bFz BK144.out 4; have hfz35_5 := bFz BK144.out 5; have hcz36_0 : w30.cell? ⟨gb145, 0, none⟩ = some (.int .i64 x146000_1) := (bCl BK145.out 0).trans rfl; have hcz36_1 : w30.cell? ⟨gb145, 1, none⟩ = some (.int .i64 x146001_1) := (bCl BK145.out 1).trans rfl; have hcz36_2 : w30.cell? ⟨gb145, 2, none⟩ = some (.int .i64 x146002_1) := (bCl BK145.out 2).trans rfl; have hcz36_3 : w30.cell? ⟨gb145, 3, none⟩ = some (.int .i64 x146003_1) := (bCl BK145.out 3).trans rfl; have hcz36_4 : w30.cell? ⟨gb145, 4, none⟩ = some (.string x146004_1) := (bCl BK145.out 4).trans rfl; have hcz36_5 : w30.cell? ⟨gb145, 5, none⟩ = some (.slice none 0 0) := (bCl BK145.out 5).trans rfl; have hfz36_0 := bFz BK145.out 0; have hfz36_1 := bFz BK145.out 1; have hfz36_2 := bFz BK145.out 2; have hfz36_3 := bFz BK145.out 3; have hfz36_4 := bFz BK145.out 4; have hfz36_5 := bFz BK145.out 5))
                refine bodyPost_ret (results_ct rfl _ _ gb145 24 #[.int .i64 a0_0, .int .i64 a0_1, .int .i64 a0_2, .int .i64 a0_3, .string a0_4, .slice (some ad146) l0_5.length c0_5] (0, 0) _ rfl (by (with_reducible repeat (first | refine bDN ?_ _ | refine bDr ?_ | refine bAl ?_ _)); refine blk_put (cs := #[.int .i64 a0_0, .int .i64 a0_1, .int .i64 a0_2, .int .i64 a0_3, .string a0_4, .slice none 0 0]) ?_ 5 _ rfl; (with_reducible repeat (first | refine bDN ?_ _ | refine bDr ?_ | refine bAl ?_ _)); refine blk_put (cs := #[.int .i64 a0_0, .int .i64 a0_1, .int .i64 a0_2, .int .i64 a0_3, .string x146004_1, .slice none 0 0]) ?_ 4 _ rfl; (with_reducible repeat (first | refine bDN ?_ _ | refine bDr ?_ | refine bAl ?_ _)); refine blk_put (cs := #[.int .i64 a0_0, .int .i64 a0_1, .int .i64 a0_2, .int .i64 x146003_1, .string x146004_1, .slice none 0 0]) ?_ 3 _ rfl; (with_reducible repeat (first | refine bDN ?_ _ | refine bDr ?_ | refine bAl ?_ _)); refine blk_put (cs := #[.int .i64 a0_0, .int .i64 a0_1, .int .i64 x146002_1, .int .i64 x146003_1, .string x146004_1, .slice none 0 0]) ?_ 2 _ rfl; (with_reducible repeat (first | refine bDN ?_ _ | refine bDr ?_ | refine bAl ?_ _)); refine blk_put (cs := #[.int .i64 a0_0, .int .i64 x146001_1, .int .i64 x146002_1, .int .i64 x146003_1, .string x146004_1, .slice none 0 0]) ?_ 1 _ rfl; (with_reducible repeat (first | refine bDN ?_ _ | refine bDr ?_ | refine bAl ?_ _)); refine blk_put (cs := #[.int .i64 x146000_1, .int .i64 x146001_1, .int .i64 x146002_1, .int .i64 x146003_1, .string x146004_1, .slice none 0 0]) ?_ 0 _ rfl; (with_reducible repeat (first | refine bDN ?_ _ | refine bDr ?_ | refine bAl ?_ _)); refine blk_far ?_ NB145_147.out _; (with_reducible repeat (first | refine bDN ?_ _ | refine bDr ?_ | refine bAl ?_ _)); refine blk_far ?_ NB145_147.out _; (with_reducible repeat (first | refine bDN ?_ _ | refine bDr ?_ | refine bAl ?_ _)); refine blk_far ?_ NB145_147.out _; (with_reducible repeat (first | refine bDN ?_ _ | refine bDr ?_ | refine bAl ?_ _)); refine blk_far ?_ NB145_147.out _; (with_reducible repeat (first | refine bDN ?_ _ | refine bDr ?_ | refine bAl ?_ _)); refine blk_far ?_ NB145_147.out _; (with_reducible repeat (first | refine bDN ?_ _ | refine bDr ?_ | refine bAl ?_ _)); refine blk_far ?_ NB145_147.out _; (with_reducible repeat (first | refine bDN ?_ _ | refine bDr ?_ | refine bAl ?_ _)); exact BK145.out) Try.underlying24 rfl (by kernel_rfl)) rfl ?_
                exact ⟨_, by first | rfl | (simp [errW_none, errW_some] <;> rfl) | (simp [*, errW_none, errW_some] <;> rfl), by (with_reducible repeat (first | apply Kd.V_alloc | apply Kd.V_drewN | apply Kd.V_drew)); exact Kd.V_mono (Kd.V_far (p := ⟨gb145, 5, none⟩) (Kd.V_far (p := ⟨gb145, 4, none⟩) (Kd.V_far (p := ⟨gb145, 3, none⟩) (Kd.V_far (p := ⟨gb145, 2, none⟩) (Kd.V_far (p := ⟨gb145, 1, none⟩) (Kd.V_far (p := ⟨gb145, 0, none⟩) (Kd.V_far (p := ⟨gb147, 5, none⟩) (Kd.V_far (p := ⟨gb147, 4, none⟩) (Kd.V_far (p := ⟨gb147, 3, none⟩) (Kd.V_far (p := ⟨gb147, 2, none⟩) (Kd.V_far (p := ⟨gb147, 1, none⟩) (Kd.V_far (p := ⟨gb147, 0, none⟩) (Kd.V_mono (Kd.V_mono HO_145005.out (fun k_ hk => (⟨hk, hk.2⟩ : _ ∧ k_ ≠ gb147))) (fun k_ hk => (⟨hk, hk.1.1.2.2.2.2⟩ : _ ∧ k_ ≠ gb145))) (fun _ hk => hk.1.2) (.int .i64 ((rd_T24 l0_5 x19_1).f0))) (fun _ hk => hk.1.2) (.int .i64 ((rd_T24 l0_5 x19_1).f1))) (fun _ hk => hk.1.2) (.int .i64 ((rd_T24 l0_5 x19_1).f2))) (fun _ hk => hk.1.2) (.int .i64 ((rd_T24 l0_5 x19_1).f3))) (fun _ hk => hk.1.2) (.string ((rd_T24 l0_5 x19_1).f4))) (fun _ hk => hk.1.2) (.slice A146_5 ((rd_T24 l0_5 x19_1).f5).length c146_5)) (fun _ hk => hk.2) (.int .i64 a0_0)) (fun _ hk => hk.2) (.int .i64 a0_1)) (fun _ hk => hk.2) (.int .i64 a0_2)) (fun _ hk => hk.2) (.int .i64 a0_3)) (fun _ hk => hk.2) (.string a0_4)) (fun _ hk => hk.2) (.slice (some ad146) l0_5.length c0_5)) (fun _ hk => hk.1.1.1.1), by repeat (first | (with_reducible first | exact HB.out | apply wAl | apply pDN | apply wDr | refine wSt ?_ GE144.out | refine wSt ?_ GE145.out | refine wSt ?_ GE147.out) | exact HB.out)⟩
            · rw [if_neg c9] at H
              exact absurd H (by simp)
          · rw [if_neg c8] at H
            exact absurd H (by simp)
        · rw [if_neg c7] at H
          have c7b0 : decide (x19_1 < (l0_5.length : Int)) = false := decide_eq_false c7
          clear c7
          replace H := Option.bind_eq_some_iff.mp H
          obtain ⟨⟨t160, t161⟩, A370, H⟩ := H
          replace H : ((vAp.f k1 a0_1 x5_1).bind fun bt162 => (if t161 = 0 then (some (1, 0, t160, bt162.1, (⟨#[]⟩ : ByteArray), ([] : List (S24)), (bt162.2 == 0))) else (some (1, 0, t160, bt162.1, (⟨#[]⟩ : ByteArray), ([] : List (S24)), false)))) = some (r1, r2, r3, r4, r5, r6, r7) := H
          have A37 := Asd.mk A370
          clear A370
          replace H := Option.bind_eq_some_iff.mp H
          obtain ⟨⟨t162, t163⟩, A380, H⟩ := H
          replace H : (if t161 = 0 then (some (1, 0, t160, t162, (⟨#[]⟩ : ByteArray), ([] : List (S24)), (t163 == 0))) else (some (1, 0, t160, t162, (⟨#[]⟩ : ByteArray), ([] : List (S24)), false))) = some (r1, r2, r3, r4, r5, r6, r7) := H
          have A38 := Asd.mk A380
          clear A380
          by_cases c39 : t161 = 0
          · rw [if_pos c39] at H
            have c39b0 : (t161 == 0) = true := beq_iff_eq.mpr c39
            have c39b1 : (t161 != 0) = false := bne_eq_false_iff_eq.mpr c39
            clear c39
            simp only [Option.some.injEq, Prod.mk.injEq] at H
            obtain ⟨rfl, rfl, rfl, rfl, rfl, rfl, rfl⟩ := H
            have hnb40 := NB144_145.out
            have hnc40 := NB145_144.out
            have hcz41_0 : wr.cell? ⟨gb144, 0, none⟩ = some (.int .i64 a0_0) := (bCl BK144.out 0).trans rfl
            have hcz41_1 : wr.cell? ⟨gb144, 1, none⟩ = some (.int .i64 a0_1) := (bCl BK144.out 1).trans rfl
            have hcz41_2 : wr.cell? ⟨gb144, 2, none⟩ = some (.int .i64 a0_2) := (bCl BK144.out 2).trans rfl
            have hcz41_3 : wr.cell? ⟨gb144, 3, none⟩ = some (.int .i64 a0_3) := (bCl BK144.out 3).trans rfl
            have hcz41_4 : wr.cell? ⟨gb144, 4, none⟩ = some (.string a0_4) := (bCl BK144.out 4).trans rfl
            have hcz41_5 : wr.cell? ⟨gb144, 5, none⟩ = some (.slice A0_5 l0_5.length c0_5) := (bCl BK144.out 5).trans rfl
            have hfz41_0 := bFz BK144.out 0
            have hfz41_1 := bFz BK144.out 1
            have hfz41_2 := bFz BK144.out 2
            have hfz41_3 := bFz BK144.out 3
            have hfz41_4 := bFz BK144.out 4
            have hfz41_5 := bFz BK144.out 5
            obtain ⟨Ao42, co42, eo42⟩ := Kd.R_slice HO_4.out
            subst eo42
            go_wp2_with (first | ((with_reducible refine gate_callee (f := 12) rfl ?_); refine goesL_ (some 42) rfl rfl Try.func12 (by kernel_rfl) rfl #[.int .i64 a0_1, .slice Ao42 x4_1.length co42] rfl (by (try simp only [List.map_toArray, List.map_cons, List.map_nil]); first | done | rfl | (simp only [List.length_drop, List.length_take]; rfl)) ?_; (with_reducible refine (vRe.calls k1 a0_1 _ _ x4_1 t160 t161 _ ?side1 ?side2 A37.out).mono ?_); (case side1 => repeat (first | exact (Kd.R_reads' HO_4.out).2.2 | (with_reducible refine Kd.C_alloc ?_ _) | (with_reducible refine Kd.C_drewN ?_ _) | (with_reducible refine Kd.C_drew ?_))); (case side2 => exact (Kd.R_reads' HO_4.out).2.1); rintro e w' ⟨rfl, ⟨nd, rfl⟩⟩; refine ⟨_, rfl, ?_⟩; (try (rw [drewN_self wr]; generalize hq_ : World.drewN wr _ = wr; have n0_ : Asd (Kd.V k24 24 wr w.heap.size (fun k_ => (P0_5_ k_ ∨ w.heap.size ≤ k_) ∧ some k_ ≠ (.slice Ao42 x4_1.length co42 : Value).ownBlock ∧ some k_ ≠ (u5 : Value).ownBlock ∧ k_ ≠ gb144 ∧ k_ ≠ gb145) (.slice A0_5 l0_5.length c0_5) l0_5) := ⟨by rw [← hq_]; exact (by (with_reducible repeat (first | apply Kd.V_alloc | apply Kd.V_drewN | apply Kd.V_drew)); exact HO_145005.out)⟩; have n1_ : Asd (Kd.V k24 24 wr w.heap.size (fun k_ => (P0_5_ k_ ∨ w.heap.size ≤ k_) ∧ some k_ ≠ (.slice Ao42 x4_1.length co42 : Value).ownBlock ∧ some k_ ≠ (u5 : Value).ownBlock ∧ k_ ≠ gb144 ∧ k_ ≠ gb145) (.slice A0_5 l0_5.length c0_5) l0_5) := ⟨by rw [← hq_]; exact (by (with_reducible repeat (first | apply Kd.V_alloc | apply Kd.V_drewN | apply Kd.V_drew)); exact HO_17.out)⟩; have n2_ : Asd (Kd.R (Kd.int .i64) 3 wr w.heap.size (fun k_ => (w.heap.size ≤ k_) ∧ some k_ ≠ (u5 : Value).ownBlock) (.slice Ao42 x4_1.length co42) x4_1) := ⟨by rw [← hq_]; exact (by (with_reducible repeat (first | apply Kd.R_alloc | apply Kd.R_drewN | apply Kd.R_drew)); exact HO_4.out)⟩; have n3_ : Asd (Kd.R (Kd.int .i64) 3 wr w.heap.size (fun k_ => (w.heap.size ≤ k_) ∧ some k_ ≠ (.slice Ao42 x4_1.length co42 : Value).ownBlock) u5 x5_1) := ⟨by rw [← hq_]; exact (by (with_reducible repeat (first | apply Kd.R_alloc | apply Kd.R_drewN | apply Kd.R_drew)); exact HO_5.out)⟩; have n4_ : Asd (wr.heap[gb144]? = some (.cells #[.int .i64 a0_0, .int .i64 a0_1, .int .i64 a0_2, .int .i64 a0_3, .string a0_4, .slice A0_5 l0_5.length c0_5] 24 (0, 0))) := ⟨by rw [← hq_]; exact (by (with_reducible repeat (first | refine bDN ?_ _ | refine bDr ?_ | refine bAl ?_ _)); exact BK144.out)⟩; have n5_ : Asd (wr.heap[gb145]? = some (.cells #[.int .i64 x146000_1, .int .i64 x146001_1, .int .i64 x146002_1, .int .i64 x146003_1, .string x146004_1, .slice none 0 0] 24 (0, 0))) := ⟨by rw [← hq_]; exact (by (with_reducible repeat (first | refine bDN ?_ _ | refine bDr ?_ | refine bAl ?_ _)); exact BK145.out)⟩; have n6_ : Asd (Below w.heap.size w wr) := ⟨by rw [← hq_]; exact (by repeat (first | (with_reducible first | exact HB.out | apply wAl | apply pDN | apply wDr | refine wSt ?_ GE144.out | refine wSt ?_ GE145.out) | exact HB.out))⟩; clear HO_145005 HO_17 HO_4 HO_5 BK144 BK145 HB hq_; have HO_145005 := n0_; have HO_17 := n1_; have HO_4 := n2_; have HO_5 := n3_; have BK144 := n4_; have BK145 := n5_; have HB := n6_; clear n0_ n1_ n2_ n3_ n4_ n5_ n6_)); obtain ⟨Ao43, co43, eo43⟩ := Kd.R_slice HO_5.out; subst eo43; have hczR_1 : wr.cell? ⟨gb144, 1, none⟩ = some (.int .i64 a0_1) := (bCl BK144.out 1).trans rfl) | ((with_reducible refine gate_callee (f := 13) rfl ?_); refine goesL_ (some 49) rfl rfl Try.func13 (by kernel_rfl) rfl #[.int .i64 a0_1, .slice Ao43 x5_1.length co43] rfl (by (try simp only [List.map_toArray, List.map_cons, List.map_nil]); first | done | rfl | (simp only [List.length_drop, List.length_take]; rfl)) ?_; (with_reducible refine (vAp.calls k1 a0_1 _ _ x5_1 t162 t163 _ ?side1 ?side2 A38.out).mono ?_); (case side1 => repeat (first | exact (Kd.R_reads' HO_5.out).2.2 | (with_reducible refine Kd.C_alloc ?_ _) | (with_reducible refine Kd.C_drewN ?_ _) | (with_reducible refine Kd.C_drew ?_))); (case side2 => exact (Kd.R_reads' HO_5.out).2.1); rintro e w' ⟨rfl, ⟨nd, rfl⟩⟩; refine ⟨_, rfl, ?_⟩; (try (rw [drewN_self wr]; generalize hq_ : World.drewN wr _ = wr; have n0_ : Asd (Kd.V k24 24 wr w.heap.size (fun k_ => (P0_5_ k_ ∨ w.heap.size ≤ k_) ∧ some k_ ≠ (.slice Ao42 x4_1.length co42 : Value).ownBlock ∧ some k_ ≠ (.slice Ao43 x5_1.length co43 : Value).ownBlock ∧ k_ ≠ gb144 ∧ k_ ≠ gb145) (.slice A0_5 l0_5.length c0_5) l0_5) := ⟨by rw [← hq_]; exact (by (with_reducible repeat (first | apply Kd.V_alloc | apply Kd.V_drewN | apply Kd.V_drew)); exact HO_145005.out)⟩; have n1_ : Asd (Kd.V k24 24 wr w.heap.size (fun k_ => (P0_5_ k_ ∨ w.heap.size ≤ k_) ∧ some k_ ≠ (.slice Ao42 x4_1.length co42 : Value).ownBlock ∧ some k_ ≠ (.slice Ao43 x5_1.length co43 : Value).ownBlock ∧ k_ ≠ gb144 ∧ k_ ≠ gb145) (.slice A0_5 l0_5.length c0_5) l0_5) := ⟨by rw [← hq_]; exact (by (with_reducible repeat (first | apply Kd.V_alloc | apply Kd.V_drewN | apply Kd.V_drew)); exact HO_17.out)⟩; have n2_ : Asd (Kd.R (Kd.int .i64) 3 wr w.heap.size (fun k_ => (w.heap.size ≤ k_) ∧ some k_ ≠ (.slice Ao43 x5_1.length co43 : Value).ownBlock) (.slice Ao42 x4_1.length co42) x4_1) := ⟨by rw [← hq_]; exact (by (with_reducible repeat (first | apply Kd.R_alloc | apply Kd.R_drewN | apply Kd.R_drew)); exact HO_4.out)⟩; have n3_ : Asd (Kd.R (Kd.int .i64) 3 wr w.heap.size (fun k_ => (w.heap.size ≤ k_) ∧ some k_ ≠ (.slice Ao42 x4_1.length co42 : Value).ownBlock) (.slice Ao43 x5_1.length co43) x5_1) := ⟨by rw [← hq_]; exact (by (with_reducible repeat (first | apply Kd.R_alloc | apply Kd.R_drewN | apply Kd.R_drew)); exact HO_5.out)⟩; have n4_ : Asd (wr.heap[gb144]? = some (.cells #[.int .i64 a0_0, .int .i64 a0_1, .int .i64 a0_2, .int .i64 a0_3, .string a0_4, .slice A0_5 l0_5.length c0_5] 24 (0, 0))) := ⟨by rw [← hq_]; exact (by (with_reducible repeat (first | refine bDN ?_ _ | refine bDr ?_ | refine bAl ?_ _)); exact BK144.out)⟩; have n5_ : Asd (wr.heap[gb145]? = some (.cells #[.int .i64 x146000_1, .int .i64 x146001_1, .int .i64 x146002_1, .int .i64 x146003_1, .string x146004_1, .slice none 0 0] 24 (0, 0))) := ⟨by rw [← hq_]; exact (by (with_reducible repeat (first | refine bDN ?_ _ | refine bDr ?_ | refine bAl ?_ _)); exact BK145.out)⟩; have n6_ : Asd (Below w.heap.size w wr) := ⟨by rw [← hq_]; exact (by repeat (first | (with_reducible first | exact HB.out | apply wAl | apply pDN | apply wDr | refine wSt ?_ GE144.out | refine wSt ?_ GE145.out) | exact HB.out))⟩; clear HO_145005 HO_17 HO_4 HO_5 BK144 BK145 HB hq_; have HO_145005 := n0_; have HO_17 := n1_; have HO_4 := n2_; have HO_5 := n3_; have BK144 := n4_; have BK145 := n5_; have HB := n6_; clear n0_ n1_ n2_ n3_ n4_ n5_ n6_)); have hcz44_0 : wr.cell? ⟨gb145, 0, none⟩ = some (.int .i64 x146000_1) := (bCl BK145.out 0).trans rfl; have hcz44_1 : wr.cell? ⟨gb145, 1, none⟩ = some (.int .i64 x146001_1) := (bCl BK145.out 1).trans rfl; have hcz44_2 : wr.cell? ⟨gb145, 2, none⟩ = some (.int .i64 x146002_1) := (bCl BK145.out 2).trans rfl; have hcz44_3 : wr.cell? ⟨gb145, 3, none⟩ = some (.int .i64 x146003_1) := (bCl BK145.out 3).trans rfl; have hcz44_4 : wr.cell? ⟨gb145, 4, none⟩ = some (.string x146004_1) := (bCl BK145.out 4).trans rfl; have hcz44_5 : wr.cell? ⟨gb145, 5, none⟩ = some (.slice none 0 0) := (bCl BK145.out 5).trans rfl; have hfz44_0 := bFz BK145.out 0; have hfz44_1 := bFz BK145.out 1; have hfz44_2 := bFz BK145.out 2; have hfz44_3 := bFz BK145.out 3; have hfz44_4 := bFz BK145.out 4; have hfz44_5 := bFz BK145.out 5))
            refine bodyPost_ret (results_ct rfl _ _ gb145 24 #[.int .i64 1, .int .i64 0, .int .i64 t160, .int .i64 t162, .string (⟨#[]⟩ : ByteArray), .slice none 0 0] (0, 0) _ rfl (by (with_reducible repeat (first | refine bDN ?_ _ | refine bDr ?_ | refine bAl ?_ _)); refine blk_put (cs := #[.int .i64 1, .int .i64 0, .int .i64 t160, .int .i64 t162, .string (⟨#[]⟩ : ByteArray), .slice none 0 0]) ?_ 5 _ rfl; (with_reducible repeat (first | refine bDN ?_ _ | refine bDr ?_ | refine bAl ?_ _)); refine blk_put (cs := #[.int .i64 1, .int .i64 0, .int .i64 t160, .int .i64 t162, .string x146004_1, .slice none 0 0]) ?_ 4 _ rfl; (with_reducible repeat (first | refine bDN ?_ _ | refine bDr ?_ | refine bAl ?_ _)); refine blk_put (cs := #[.int .i64 1, .int .i64 0, .int .i64 t160, .int .i64 x146003_1, .string x146004_1, .slice none 0 0]) ?_ 3 _ rfl; (with_reducible repeat (first | refine bDN ?_ _ | refine bDr ?_ | refine bAl ?_ _)); refine blk_put (cs := #[.int .i64 1, .int .i64 0, .int .i64 x146002_1, .int .i64 x146003_1, .string x146004_1, .slice none 0 0]) ?_ 2 _ rfl; (with_reducible repeat (first | refine bDN ?_ _ | refine bDr ?_ | refine bAl ?_ _)); refine blk_put (cs := #[.int .i64 1, .int .i64 x146001_1, .int .i64 x146002_1, .int .i64 x146003_1, .string x146004_1, .slice none 0 0]) ?_ 1 _ rfl; (with_reducible repeat (first | refine bDN ?_ _ | refine bDr ?_ | refine bAl ?_ _)); refine blk_put (cs := #[.int .i64 x146000_1, .int .i64 x146001_1, .int .i64 x146002_1, .int .i64 x146003_1, .string x146004_1, .slice none 0 0]) ?_ 0 _ rfl; (with_reducible repeat (first | refine bDN ?_ _ | refine bDr ?_ | refine bAl ?_ _)); exact BK145.out) Try.underlying24 rfl (by kernel_rfl)) rfl ?_
            exact ⟨_, by first | rfl | (simp [errW_none, errW_some] <;> rfl) | (simp [*, errW_none, errW_some] <;> rfl), Kd.V_mono (Kd.R_V (Kd.R_nil k24 24 _ w.heap.size (fun k_ => w.heap.size ≤ k_))) (fun k_ hk => by first | exact ⟨(.inr (hk.1)), hk.2⟩ | exact (.inr (hk))), by repeat (first | (with_reducible first | exact HB.out | apply wAl | apply pDN | apply wDr | refine wSt ?_ GE144.out | refine wSt ?_ GE145.out) | exact HB.out)⟩
          · rw [if_neg c39] at H
            have c39b0 : (t161 == 0) = false := beq_eq_false_iff_ne.mpr c39
            have c39b1 : (t161 != 0) = true := bne_iff_ne.mpr c39
            simp only [Option.some.injEq, Prod.mk.injEq] at H
            obtain ⟨rfl, rfl, rfl, rfl, rfl, rfl, rfl⟩ := H
            have hnb45 := NB144_145.out
            have hnc45 := NB145_144.out
            have hcz46_0 : wr.cell? ⟨gb144, 0, none⟩ = some (.int .i64 a0_0) := (bCl BK144.out 0).trans rfl
            have hcz46_1 : wr.cell? ⟨gb144, 1, none⟩ = some (.int .i64 a0_1) := (bCl BK144.out 1).trans rfl
            have hcz46_2 : wr.cell? ⟨gb144, 2, none⟩ = some (.int .i64 a0_2) := (bCl BK144.out 2).trans rfl
            have hcz46_3 : wr.cell? ⟨gb144, 3, none⟩ = some (.int .i64 a0_3) := (bCl BK144.out 3).trans rfl
            have hcz46_4 : wr.cell? ⟨gb144, 4, none⟩ = some (.string a0_4) := (bCl BK144.out 4).trans rfl
            have hcz46_5 : wr.cell? ⟨gb144, 5, none⟩ = some (.slice A0_5 l0_5.length c0_5) := (bCl BK144.out 5).trans rfl
            have hfz46_0 := bFz BK144.out 0
            have hfz46_1 := bFz BK144.out 1
            have hfz46_2 := bFz BK144.out 2
            have hfz46_3 := bFz BK144.out 3
            have hfz46_4 := bFz BK144.out 4
            have hfz46_5 := bFz BK144.out 5
            obtain ⟨Ao47, co47, eo47⟩ := Kd.R_slice HO_4.out
            subst eo47
            go_wp2_with (first | ((with_reducible refine gate_callee (f := 12) rfl ?_); refine goesL_ (some 42) rfl rfl Try.func12 (by kernel_rfl) rfl #[.int .i64 a0_1, .slice Ao47 x4_1.length co47] rfl (by (try simp only [List.map_toArray, List.map_cons, List.map_nil]); first | done | rfl | (simp only [List.length_drop, List.length_take]; rfl)) ?_; (with_reducible refine (vRe.calls k1 a0_1 _ _ x4_1 t160 t161 _ ?side1 ?side2 A37.out).mono ?_); (case side1 => repeat (first | exact (Kd.R_reads' HO_4.out).2.2 | (with_reducible refine Kd.C_alloc ?_ _) | (with_reducible refine Kd.C_drewN ?_ _) | (with_reducible refine Kd.C_drew ?_))); (case side2 => exact (Kd.R_reads' HO_4.out).2.1); rintro e w' ⟨rfl, ⟨nd, rfl⟩⟩; refine ⟨_, rfl, ?_⟩; (try (rw [drewN_self wr]; generalize hq_ : World.drewN wr _ = wr; have n0_ : Asd (Kd.V k24 24 wr w.heap.size (fun k_ => (P0_5_ k_ ∨ w.heap.size ≤ k_) ∧ some k_ ≠ (.slice Ao47 x4_1.length co47 : Value).ownBlock ∧ some k_ ≠ (u5 : Value).ownBlock ∧ k_ ≠ gb144 ∧ k_ ≠ gb145) (.slice A0_5 l0_5.length c0_5) l0_5) := ⟨by rw [← hq_]; exact (by (with_reducible repeat (first | apply Kd.V_alloc | apply Kd.V_drewN | apply Kd.V_drew)); exact HO_145005.out)⟩; have n1_ : Asd (Kd.V k24 24 wr w.heap.size (fun k_ => (P0_5_ k_ ∨ w.heap.size ≤ k_) ∧ some k_ ≠ (.slice Ao47 x4_1.length co47 : Value).ownBlock ∧ some k_ ≠ (u5 : Value).ownBlock ∧ k_ ≠ gb144 ∧ k_ ≠ gb145) (.slice A0_5 l0_5.length c0_5) l0_5) := ⟨by rw [← hq_]; exact (by (with_reducible repeat (first | apply Kd.V_alloc | apply Kd.V_drewN | apply Kd.V_drew)); exact HO_17.out)⟩; have n2_ : Asd (Kd.R (Kd.int .i64) 3 wr w.heap.size (fun k_ => (w.heap.size ≤ k_) ∧ some k_ ≠ (u5 : Value).ownBlock) (.slice Ao47 x4_1.length co47) x4_1) := ⟨by rw [← hq_]; exact (by (with_reducible repeat (first | apply Kd.R_alloc | apply Kd.R_drewN | apply Kd.R_drew)); exact HO_4.out)⟩; have n3_ : Asd (Kd.R (Kd.int .i64) 3 wr w.heap.size (fun k_ => (w.heap.size ≤ k_) ∧ some k_ ≠ (.slice Ao47 x4_1.length co47 : Value).ownBlock) u5 x5_1) := ⟨by rw [← hq_]; exact (by (with_reducible repeat (first | apply Kd.R_alloc | apply Kd.R_drewN | apply Kd.R_drew)); exact HO_5.out)⟩; have n4_ : Asd (wr.heap[gb144]? = some (.cells #[.int .i64 a0_0, .int .i64 a0_1, .int .i64 a0_2, .int .i64 a0_3, .string a0_4, .slice A0_5 l0_5.length c0_5] 24 (0, 0))) := ⟨by rw [← hq_]; exact (by (with_reducible repeat (first | refine bDN ?_ _ | refine bDr ?_ | refine bAl ?_ _)); exact BK144.out)⟩; have n5_ : Asd (wr.heap[gb145]? = some (.cells #[.int .i64 x146000_1, .int .i64 x146001_1, .int .i64 x146002_1, .int .i64 x146003_1, .string x146004_1, .slice none 0 0] 24 (0, 0))) := ⟨by rw [← hq_]; exact (by (with_reducible repeat (first | refine bDN ?_ _ | refine bDr ?_ | refine bAl ?_ _)); exact BK145.out)⟩; have n6_ : Asd (Below w.heap.size w wr) := ⟨by rw [← hq_]; exact (by repeat (first | (with_reducible first | exact HB.out | apply wAl | apply pDN | apply wDr | refine wSt ?_ GE144.out | refine wSt ?_ GE145.out) | exact HB.out))⟩; clear HO_145005 HO_17 HO_4 HO_5 BK144 BK145 HB hq_; have HO_145005 := n0_; have HO_17 := n1_; have HO_4 := n2_; have HO_5 := n3_; have BK144 := n4_; have BK145 := n5_; have HB := n6_; clear n0_ n1_ n2_ n3_ n4_ n5_ n6_)); obtain ⟨Ao48, co48, eo48⟩ := Kd.R_slice HO_5.out; subst eo48; have hczR_1 : wr.cell? ⟨gb144, 1, none⟩ = some (.int .i64 a0_1) := (bCl BK144.out 1).trans rfl) | ((with_reducible refine gate_callee (f := 13) rfl ?_); refine goesL_ (some 49) rfl rfl Try.func13 (by kernel_rfl) rfl #[.int .i64 a0_1, .slice Ao48 x5_1.length co48] rfl (by (try simp only [List.map_toArray, List.map_cons, List.map_nil]); first | done | rfl | (simp only [List.length_drop, List.length_take]; rfl)) ?_; (with_reducible refine (vAp.calls k1 a0_1 _ _ x5_1 t162 t163 _ ?side1 ?side2 A38.out).mono ?_); (case side1 => repeat (first | exact (Kd.R_reads' HO_5.out).2.2 | (with_reducible refine Kd.C_alloc ?_ _) | (with_reducible refine Kd.C_drewN ?_ _) | (with_reducible refine Kd.C_drew ?_))); (case side2 => exact (Kd.R_reads' HO_5.out).2.1); rintro e w' ⟨rfl, ⟨nd, rfl⟩⟩; refine ⟨_, rfl, ?_⟩; (try (rw [drewN_self wr]; generalize hq_ : World.drewN wr _ = wr; have n0_ : Asd (Kd.V k24 24 wr w.heap.size (fun k_ => (P0_5_ k_ ∨ w.heap.size ≤ k_) ∧ some k_ ≠ (.slice Ao47 x4_1.length co47 : Value).ownBlock ∧ some k_ ≠ (.slice Ao48 x5_1.length co48 : Value).ownBlock ∧ k_ ≠ gb144 ∧ k_ ≠ gb145) (.slice A0_5 l0_5.length c0_5) l0_5) := ⟨by rw [← hq_]; exact (by (with_reducible repeat (first | apply Kd.V_alloc | apply Kd.V_drewN | apply Kd.V_drew)); exact HO_145005.out)⟩; have n1_ : Asd (Kd.V k24 24 wr w.heap.size (fun k_ => (P0_5_ k_ ∨ w.heap.size ≤ k_) ∧ some k_ ≠ (.slice Ao47 x4_1.length co47 : Value).ownBlock ∧ some k_ ≠ (.slice Ao48 x5_1.length co48 : Value).ownBlock ∧ k_ ≠ gb144 ∧ k_ ≠ gb145) (.slice A0_5 l0_5.length c0_5) l0_5) := ⟨by rw [← hq_]; exact (by (with_reducible repeat (first | apply Kd.V_alloc | apply Kd.V_drewN | apply Kd.V_drew)); exact HO_17.out)⟩; have n2_ : Asd (Kd.R (Kd.int .i64) 3 wr w.heap.size (fun k_ => (w.heap.size ≤ k_) ∧ some k_ ≠ (.slice Ao48 x5_1.length co48 : Value).ownBlock) (.slice Ao47 x4_1.length co47) x4_1) := ⟨by rw [← hq_]; exact (by (with_reducible repeat (first | apply Kd.R_alloc | apply Kd.R_drewN | apply Kd.R_drew)); exact HO_4.out)⟩; have n3_ : Asd (Kd.R (Kd.int .i64) 3 wr w.heap.size (fun k_ => (w.heap.size ≤ k_) ∧ some k_ ≠ (.slice Ao47 x4_1.length co47 : Value).ownBlock) (.slice Ao48 x5_1.length co48) x5_1) := ⟨by rw [← hq_]; exact (by (with_reducible repeat (first | apply Kd.R_alloc | apply Kd.R_drewN | apply Kd.R_drew)); exact HO_5.out)⟩; have n4_ : Asd (wr.heap[gb144]? = some (.cells #[.int .i64 a0_0, .int .i64 a0_1, .int .i64 a0_2, .int .i64 a0_3, .string a0_4, .slice A0_5 l0_5.length c0_5] 24 (0, 0))) := ⟨by rw [← hq_]; exact (by (with_reducible repeat (first | refine bDN ?_ _ | refine bDr ?_ | refine bAl ?_ _)); exact BK144.out)⟩; have n5_ : Asd (wr.heap[gb145]? = some (.cells #[.int .i64 x146000_1, .int .i64 x146001_1, .int .i64 x146002_1, .int .i64 x146003_1, .string x146004_1, .slice none 0 0] 24 (0, 0))) := ⟨by rw [← hq_]; exact (by (with_reducible repeat (first | refine bDN ?_ _ | refine bDr ?_ | refine bAl ?_ _)); exact BK145.out)⟩; have n6_ : Asd (Below w.heap.size w wr) := ⟨by rw [← hq_]; exact (by repeat (first | (with_reducible first | exact HB.out | apply wAl | apply pDN | apply wDr | refine wSt ?_ GE144.out | refine wSt ?_ GE145.out) | exact HB.out))⟩; clear HO_145005 HO_17 HO_4 HO_5 BK144 BK145 HB hq_; have HO_145005 := n0_; have HO_17 := n1_; have HO_4 := n2_; have HO_5 := n3_; have BK144 := n4_; have BK145 := n5_; have HB := n6_; clear n0_ n1_ n2_ n3_ n4_ n5_ n6_)); have hcz49_0 : wr.cell? ⟨gb145, 0, none⟩ = some (.int .i64 x146000_1) := (bCl BK145.out 0).trans rfl; have hcz49_1 : wr.cell? ⟨gb145, 1, none⟩ = some (.int .i64 x146001_1) := (bCl BK145.out 1).trans rfl; have hcz49_2 : wr.cell? ⟨gb145, 2, none⟩ = some (.int .i64 x146002_1) := (bCl BK145.out 2).trans rfl; have hcz49_3 : wr.cell? ⟨gb145, 3, none⟩ = some (.int .i64 x146003_1) := (bCl BK145.out 3).trans rfl; have hcz49_4 : wr.cell? ⟨gb145, 4, none⟩ = some (.string x146004_1) := (bCl BK145.out 4).trans rfl; have hcz49_5 : wr.cell? ⟨gb145, 5, none⟩ = some (.slice none 0 0) := (bCl BK145.out 5).trans rfl; have hfz49_0 := bFz BK145.out 0; have hfz49_1 := bFz BK145.out 1; have hfz49_2 := bFz BK145.out 2; have hfz49_3 := bFz BK145.out 3; have hfz49_4 := bFz BK145.out 4; have hfz49_5 := bFz BK145.out 5))
            refine bodyPost_ret (results_ct rfl _ _ gb145 24 #[.int .i64 1, .int .i64 0, .int .i64 t160, .int .i64 t162, .string (⟨#[]⟩ : ByteArray), .slice none 0 0] (0, 0) _ rfl (by (with_reducible repeat (first | refine bDN ?_ _ | refine bDr ?_ | refine bAl ?_ _)); refine blk_put (cs := #[.int .i64 1, .int .i64 0, .int .i64 t160, .int .i64 t162, .string (⟨#[]⟩ : ByteArray), .slice none 0 0]) ?_ 5 _ rfl; (with_reducible repeat (first | refine bDN ?_ _ | refine bDr ?_ | refine bAl ?_ _)); refine blk_put (cs := #[.int .i64 1, .int .i64 0, .int .i64 t160, .int .i64 t162, .string x146004_1, .slice none 0 0]) ?_ 4 _ rfl; (with_reducible repeat (first | refine bDN ?_ _ | refine bDr ?_ | refine bAl ?_ _)); refine blk_put (cs := #[.int .i64 1, .int .i64 0, .int .i64 t160, .int .i64 x146003_1, .string x146004_1, .slice none 0 0]) ?_ 3 _ rfl; (with_reducible repeat (first | refine bDN ?_ _ | refine bDr ?_ | refine bAl ?_ _)); refine blk_put (cs := #[.int .i64 1, .int .i64 0, .int .i64 x146002_1, .int .i64 x146003_1, .string x146004_1, .slice none 0 0]) ?_ 2 _ rfl; (with_reducible repeat (first | refine bDN ?_ _ | refine bDr ?_ | refine bAl ?_ _)); refine blk_put (cs := #[.int .i64 1, .int .i64 x146001_1, .int .i64 x146002_1, .int .i64 x146003_1, .string x146004_1, .slice none 0 0]) ?_ 1 _ rfl; (with_reducible repeat (first | refine bDN ?_ _ | refine bDr ?_ | refine bAl ?_ _)); refine blk_put (cs := #[.int .i64 x146000_1, .int .i64 x146001_1, .int .i64 x146002_1, .int .i64 x146003_1, .string x146004_1, .slice none 0 0]) ?_ 0 _ rfl; (with_reducible repeat (first | refine bDN ?_ _ | refine bDr ?_ | refine bAl ?_ _)); exact BK145.out) Try.underlying24 rfl (by kernel_rfl)) rfl ?_
            exact ⟨_, by first | rfl | (simp [errW_none, errW_some] <;> rfl) | (simp [*, errW_none, errW_some] <;> rfl), Kd.V_mono (Kd.R_V (Kd.R_nil k24 24 _ w.heap.size (fun k_ => w.heap.size ≤ k_))) (fun k_ hk => by first | exact ⟨(.inr (hk.1)), hk.2⟩ | exact (.inr (hk))), by repeat (first | (with_reducible first | exact HB.out | apply wAl | apply pDN | apply wDr | refine wSt ?_ GE144.out | refine wSt ?_ GE145.out) | exact HB.out)⟩
  · exact absurd h3.out c2
end Go.Proofs.Ytgbpdfkobelbcaa.PSimpFolds
end
section
namespace Go.Proofs.Ytgbpdfkobelbcaa.PSimpFolds
open Go.RowKit Go.Proofs.YtgbpdfkobelbcaaW.PrintWords Go.Proofs.YtgbpdfkobelbcaaW.PrintLast Go.Proofs.YtgbpdfkobelbcaaW.PrintMore
attribute [local go_sem] max2_int min2_int max_two min_two max_three min_three max_four min_four
set_option linter.unusedVariables false
set_option linter.unusedSimpArgs false
def r20constant.l0 : Nat → List Int → List Int → Int → Int → Int → Int → Int → ByteArray → List (S24) → Option (Int × Int × Int × Int × ByteArray × (List (S24)) × Bool)
  | 0, _, _, _, _, _, _, _, _, _ => none
  | k + 1, x4, x5, x6, x390000, x390001, x390002, x390003, x390004, x390005 => if x6 < (x390005.length : Int) then (if 0 ≤ x6 then (if ((rd_T24 x390005 x6).f0) = 1 then (if x4.length < 17592186044416 then (if x5.length < 17592186044416 then (r20constant.l0 k (x4 ++ [(rd_T24 x390005 x6).f2]) (x5 ++ [(rd_T24 x390005 x6).f3]) (wrap64 (x6 + 1)) x390000 x390001 x390002 x390003 x390004 x390005) else (none)) else (none)) else (some (x390000, x390001, x390002, x390003, x390004, x390005, false))) else (none)) else ((r05Result.f k x390001 x4).bind fun bt400 => ((r05Apply.f k x390001 x5).bind fun bt402 => (if bt400.2 = 0 then (if bt402.2 = 0 then (some (1, 0, bt400.1, bt402.1, (⟨#[]⟩ : ByteArray), ([] : List (S24)), true)) else (some (x390000, x390001, x390002, x390003, x390004, x390005, false))) else (some (x390000, x390001, x390002, x390003, x390004, x390005, false)))))
def r20constant.f (k : Nat) (a0_0 : Int) (a0_1 : Int) (a0_2 : Int) (a0_3 : Int) (a0_4 : ByteArray) (l0_5 : List (S24)) : Option (Int × Int × Int × Int × ByteArray × (List (S24)) × Bool) := if a0_0 = 3 then (r20constant.l0 k ([] : List Int) ([] : List Int) 0 a0_0 a0_1 a0_2 a0_3 a0_4 l0_5) else (some (a0_0, a0_1, a0_2, a0_3, a0_4, l0_5, false))
set_option maxHeartbeats 8000000 in
set_option maxRecDepth 100000 in
theorem r20constant.calls (k : Nat) (a0_0 : Int) (a0_1 : Int) (a0_2 : Int) (a0_3 : Int) (a0_4 : ByteArray) (P0_5_ : Nat → Prop) (A0_5 : Option Addr) (c0_5 : Nat) (l0_5 : List (S24)) (r1 : Int) (r2 : Int) (r3 : Int) (r4 : Int) (r5 : ByteArray) (r6 : List (S24)) (r7 : Bool) (w : World) (hs0_5 : Kd.V k24 24 w w.heap.size (fun k_ => P0_5_ k_) (.slice A0_5 l0_5.length c0_5) l0_5) (h3 : Asd (a0_0 = 3)) (h : r20constant.f k a0_0 a0_1 a0_2 a0_3 a0_4 l0_5 = some (r1, r2, r3, r4, r5, r6, r7)) :
    Calls Try.prog 22 #[.agg #[.int .i64 a0_0, .int .i64 a0_1, .int .i64 a0_2, .int .i64 a0_3, .string a0_4, .slice A0_5 l0_5.length c0_5]] w fun e w' => ∃ v5_ : Value, e = .returned (.tuple #[.agg #[.int .i64 r1, .int .i64 r2, .int .i64 r3, .int .i64 r4, .string r5, v5_], .bool r7]) ∧ Kd.V k24 24 w' w.heap.size (fun k_ => (P0_5_ k_ ∨ w.heap.size ≤ k_)) v5_ r6 ∧ Below w.heap.size w w' := by
  have hu24 := Try.underlying24
  have HO0_5 := Asd.mk (show Kd.V k24 24 w w.heap.size (fun k_ => (P0_5_ k_ ∨ w.heap.size ≤ k_)) (.slice A0_5 l0_5.length c0_5) l0_5 from Kd.V_mono hs0_5 (fun k_ hk => .inl hk))
  have HB := Asd.mk (Below.refl w.heap.size w)
  have H : (if a0_0 = 3 then (r20constant.l0 k ([] : List Int) ([] : List Int) 0 a0_0 a0_1 a0_2 a0_3 a0_4 l0_5) else (some (a0_0, a0_1, a0_2, a0_3, a0_4, l0_5, false))) = some (r1, r2, r3, r4, r5, r6, r7) := h
  clear h
  by_cases c2 : a0_0 = 3
  · rw [if_pos c2] at H
    have c2b0 : (a0_0 == 3) = true := beq_iff_eq.mpr c2
    have c2b1 : (a0_0 != 3) = false := bne_eq_false_iff_eq.mpr c2
    clear c2
    have H' := Asd.mk H
    clear H
    go_enter Try.func22, Try.ntmps22
    go_wp2_with (first | ((with_reducible refine gate_dst (N := 1) rfl ?_); refine box_event ?hg (N := 1) ?hd (cs := #[.int .i64 a0_0, .int .i64 a0_1, .int .i64 a0_2, .int .i64 a0_3, .string a0_4, .slice A0_5 l0_5.length c0_5]) (t := 24) ?hr ?_; (case hd => rfl); (case hg => rfl); (case hr => first | (go_simp; done) | (go_simp; rfl)); intro gb389 hg w3 hbox hb; have n0_ := Asd.mk (Kd.V_below (Kd.V_elderB (by (with_reducible repeat (first | apply Kd.V_alloc | apply Kd.V_drewN | apply Kd.V_drew)); exact HO0_5.out) gb389 (Nat.le_of_eq hg.symm)) hb); have n1_ := Asd.mk (wSp (by repeat (first | (with_reducible first | exact HB.out | apply wAl | apply pDN | apply wDr) | exact HB.out)) hb); have n2_ := Asd.mk (hbox); have n3_ := Asd.mk ((by rw [hg]; exact (wSz (by repeat (first | (with_reducible first | exact HB.out | apply wAl | apply pDN | apply wDr) | exact HB.out))) : w.heap.size ≤ gb389)); have n4_ := Asd.mk ((by rw [hg]; exact (wSz (by repeat (first | (with_reducible first | exact HB.out | apply wAl | apply pDN | apply wDr) | exact HB.out))) : w.heap.size ≤ gb389)); clear HO0_5; clear HB; have HO0_5 := n0_; have HB := n1_; have BK389 := n2_; have GW389 := n3_; have GE389 := n4_; clear n0_ n1_ n2_ n3_ n4_; clear hb hbox hg) | ((with_reducible refine gate_dst (N := 2) rfl ?_); refine box_event ?hg (N := 2) ?hd (cs := #[.int .i64 0, .int .i64 0, .int .i64 0, .int .i64 0, .string (⟨#[]⟩ : ByteArray), .slice none 0 0]) (t := 24) ?hr ?_; (case hd => rfl); (case hg => rfl); (case hr => first | (go_simp; done) | (go_simp; rfl)); intro gb390 hg w4 hbox hb; have n0_ := Asd.mk (Kd.V_below (Kd.V_elderB (by (with_reducible repeat (first | apply Kd.V_alloc | apply Kd.V_drewN | apply Kd.V_drew)); exact HO0_5.out) gb390 (Nat.le_of_eq hg.symm)) hb); have n1_ := Asd.mk (blk_below (g := gb389) (o := .cells #[.int .i64 a0_0, .int .i64 a0_1, .int .i64 a0_2, .int .i64 a0_3, .string a0_4, .slice A0_5 l0_5.length c0_5] 24 (0, 0)) (by (with_reducible repeat (first | refine bDN ?_ _ | refine bDr ?_ | refine bAl ?_ _)); exact BK389.out) hb); have n2_ := Asd.mk (wSp (by repeat (first | (with_reducible first | exact HB.out | apply wAl | apply pDN | apply wDr | refine wSt ?_ GE389.out) | exact HB.out)) hb); have n3_ := Asd.mk (hbox); have n4_ := Asd.mk ((by rw [hg]; exact (wSz (by repeat (first | (with_reducible first | exact HB.out | apply wAl | apply pDN | apply wDr | refine wSt ?_ GE389.out) | exact HB.out))) : w.heap.size ≤ gb390)); have n5_ := Asd.mk ((by rw [hg]; exact (wSz (by repeat (first | (with_reducible first | exact HB.out | apply wAl | apply pDN | apply wDr | refine wSt ?_ GE389.out) | exact HB.out))) : w.heap.size ≤ gb390)); have n6_ := Asd.mk ((by rw [hg]; exact Nat.ne_of_lt (blk_lt (g := gb389) (o := .cells #[.int .i64 a0_0, .int .i64 a0_1, .int .i64 a0_2, .int .i64 a0_3, .string a0_4, .slice A0_5 l0_5.length c0_5] 24 (0, 0)) (by (with_reducible repeat (first | refine bDN ?_ _ | refine bDr ?_ | refine bAl ?_ _)); exact BK389.out)) : gb389 ≠ gb390)); have n7_ := Asd.mk ((by rw [hg]; exact Nat.ne_of_gt (blk_lt (g := gb389) (o := .cells #[.int .i64 a0_0, .int .i64 a0_1, .int .i64 a0_2, .int .i64 a0_3, .string a0_4, .slice A0_5 l0_5.length c0_5] 24 (0, 0)) (by (with_reducible repeat (first | refine bDN ?_ _ | refine bDr ?_ | refine bAl ?_ _)); exact BK389.out)) : gb390 ≠ gb389)); clear HO0_5; clear BK389; clear HB; have HO0_5 := n0_; have BK389 := n1_; have HB := n2_; have BK390 := n3_; have GW390 := n4_; have GE390 := n5_; have NB389_390 := n6_; have NB390_389 := n7_; clear n0_ n1_ n2_ n3_ n4_ n5_ n6_ n7_; clear hb hbox hg; have hnb5 := NB389_390.out; have hnc5 := NB390_389.out; have hcz6_0 : w4.cell? ⟨gb389, 0, none⟩ = some (.int .i64 a0_0) := (bCl BK389.out 0).trans rfl; have hcz6_1 : w4.cell? ⟨gb389, 1, none⟩ = some (.int .i64 a0_1) := (bCl BK389.out 1).trans rfl; have hcz6_2 : w4.cell? ⟨gb389, 2, none⟩ = some (.int .i64 a0_2) := (bCl BK389.out 2).trans rfl; have hcz6_3 : w4.cell? ⟨gb389, 3, none⟩ = some (.int .i64 a0_3) := (bCl BK389.out 3).trans rfl; have hcz6_4 : w4.cell? ⟨gb389, 4, none⟩ = some (.string a0_4) := (bCl BK389.out 4).trans rfl; have hcz6_5 : w4.cell? ⟨gb389, 5, none⟩ = some (.slice A0_5 l0_5.length c0_5) := (bCl BK389.out 5).trans rfl; have hfz6_0 := bFz BK389.out 0; have hfz6_1 := bFz BK389.out 1; have hfz6_2 := bFz BK389.out 2; have hfz6_3 := bFz BK389.out 3; have hfz6_4 := bFz BK389.out 4; have hfz6_5 := bFz BK389.out 5))
    go_loopg [4, 5, 6] k (fun kq v4 v5 v6 w' => ∃ (x4_1 : List Int) (x5_1 : List Int) (x6_1 : Int) (x391000_1 : Int) (x391001_1 : Int) (x391002_1 : Int) (x391003_1 : Int) (x391004_1 : ByteArray), v6 = .int .i64 x6_1 ∧ Asd (r20constant.l0 kq x4_1 x5_1 x6_1 a0_0 a0_1 a0_2 a0_3 a0_4 l0_5 = some (r1, r2, r3, r4, r5, r6, r7)) ∧ Asd (kq ≤ k) ∧ Asd (Kd.R (Kd.int .i64) 3 w' w.heap.size (fun k_ => (w.heap.size ≤ k_) ∧ some k_ ≠ (v5 : Value).ownBlock) v4 x4_1) ∧ Asd (Kd.R (Kd.int .i64) 3 w' w.heap.size (fun k_ => (w.heap.size ≤ k_) ∧ some k_ ≠ (v4 : Value).ownBlock) v5 x5_1) ∧ Asd (Kd.V k24 24 w' w.heap.size (fun k_ => (P0_5_ k_ ∨ w.heap.size ≤ k_) ∧ some k_ ≠ (v4 : Value).ownBlock ∧ some k_ ≠ (v5 : Value).ownBlock ∧ k_ ≠ gb389 ∧ k_ ≠ gb390) (.slice A0_5 l0_5.length c0_5) l0_5) ∧ Asd (w'.heap[gb389]? = some (.cells #[.int .i64 a0_0, .int .i64 a0_1, .int .i64 a0_2, .int .i64 a0_3, .string a0_4, (.slice A0_5 l0_5.length c0_5)] 24 (0, 0))) ∧ Asd (w'.heap[gb390]? = some (.cells #[.int .i64 x391000_1, .int .i64 x391001_1, .int .i64 x391002_1, .int .i64 x391003_1, .string x391004_1, (.slice none 0 0)] 24 (0, 0))) ∧ Asd (Below w.heap.size w w'))
    case atStart => exact ⟨(([] : List Int)), (([] : List Int)), (0), (0), (0), (0), (0), ((⟨#[]⟩ : ByteArray)), (by first | rfl | (simp; done) | (simp [*]; done)), H', ⟨Nat.le_refl _⟩, ⟨by first | exact Kd.R_nil _ _ _ _ _ | exact Kd.N_nil _ _ _ _ _ | exact Kd.V_nil _ _ _ _ _ | exact Kd.Q_nil _ _ _ _ _ | exact Kd.S_nil _ _ _ _ _⟩, ⟨by first | exact Kd.R_nil _ _ _ _ _ | exact Kd.N_nil _ _ _ _ _ | exact Kd.V_nil _ _ _ _ _ | exact Kd.Q_nil _ _ _ _ _ | exact Kd.S_nil _ _ _ _ _⟩, ⟨by (with_reducible repeat (first | apply Kd.V_alloc | apply Kd.V_drewN | apply Kd.V_drew)); exact Kd.V_mono HO0_5.out (fun _ hk => ⟨hk.1.1, ⟨(by simp [Value.ownBlock]), ⟨(by simp [Value.ownBlock]), ⟨hk.1.2, hk.2⟩⟩⟩⟩)⟩, ⟨by (with_reducible repeat (first | refine bDN ?_ _ | refine bDr ?_ | refine bAl ?_ _)); exact BK389.out⟩, ⟨by (with_reducible repeat (first | refine bDN ?_ _ | refine bDr ?_ | refine bAl ?_ _)); exact BK390.out⟩, ⟨by repeat (first | (with_reducible first | exact HB.out | apply wAl | apply pDN | apply wDr | refine wSt ?_ GE389.out | refine wSt ?_ GE390.out) | exact HB.out)⟩⟩
    case round =>
      clear H'
      try clear c2
      try clear c2b0
      try clear c2b1
      try clear p2
      try clear c5
      try clear hcz6_0
      try clear hcz6_1
      try clear hcz6_2
      try clear hcz6_3
      try clear hcz6_4
      try clear hcz6_5
      try clear hfz6_0
      try clear hfz6_1
      try clear hfz6_2
      try clear hfz6_3
      try clear hfz6_4
      try clear hfz6_5
      obtain ⟨x4_1, x5_1, x6_1, x391000_1, x391001_1, x391002_1, x391003_1, x391004_1, rfl, HA, HK1, HO_4, HO_5, HO_390005, BK389, BK390, HB⟩ := hrel
      cases gk with
      | zero => exact absurd HA.out (by simp [r20constant.l0])
      | succ k1 =>
        have H := HA.out
        clear HA
        simp only [r20constant.l0] at H
        by_cases c7 : x6_1 < (l0_5.length : Int)
        · rw [if_pos c7] at H
          have c7b0 : decide (x6_1 < (l0_5.length : Int)) = true := decide_eq_true c7
          clear c7
          by_cases c8 : 0 ≤ x6_1
          · rw [if_pos c8] at H
            have c8b0 : decide (0 ≤ x6_1) = true := decide_eq_true c8
            clear c8
            by_cases c9 : ((rd_T24 l0_5 x6_1).f0) = 1
            · rw [if_pos c9] at H
              have c9b0 : (((rd_T24 l0_5 x6_1).f0) == 1) = true := beq_iff_eq.mpr c9
              have c9b1 : (((rd_T24 l0_5 x6_1).f0) != 1) = false := bne_eq_false_iff_eq.mpr c9
              clear c9
              by_cases c10 : x4_1.length < 17592186044416
              · rw [if_pos c10] at H
                have LMc10 := Asd.mk c10
                clear c10
                obtain ⟨y393, hy393⟩ : ∃ y_ : List Int, y_ = (x4_1 ++ [(rd_T24 l0_5 x6_1).f2]) := ⟨_, rfl⟩
                replace H : (if x5_1.length < 17592186044416 then (r20constant.l0 k1 y393 (x5_1 ++ [(rd_T24 l0_5 x6_1).f3]) (wrap64 (x6_1 + 1)) a0_0 a0_1 a0_2 a0_3 a0_4 l0_5) else (none)) = some (r1, r2, r3, r4, r5, r6, r7) := by first | (rw [hy393]; with_reducible exact H) | (have H2_ := (Option.bind_some _ _).symm.trans H; rw [hy393]; with_reducible exact H2_) | (have H2_ := (Option.bind_some _ _).symm.trans H; with_reducible exact H2_) | with_reducible exact H | (rw [hy393]; exact H) | exact H
                have Ny393 := Asd.mk hy393
                clear hy393
                by_cases c11 : x5_1.length < 17592186044416
                · rw [if_pos c11] at H
                  have LMc11 := Asd.mk c11
                  clear c11
                  obtain ⟨y397, hy397⟩ : ∃ y_ : List Int, y_ = (x5_1 ++ [(rd_T24 l0_5 x6_1).f3]) := ⟨_, rfl⟩
                  replace H : (r20constant.l0 k1 y393 y397 (wrap64 (x6_1 + 1)) a0_0 a0_1 a0_2 a0_3 a0_4 l0_5) = some (r1, r2, r3, r4, r5, r6, r7) := by first | (rw [hy397]; with_reducible exact H) | (have H2_ := (Option.bind_some _ _).symm.trans H; rw [hy397]; with_reducible exact H2_) | (have H2_ := (Option.bind_some _ _).symm.trans H; with_reducible exact H2_) | with_reducible exact H | (rw [hy397]; exact H) | exact H
                  have Ny397 := Asd.mk hy397
                  clear hy397
                  have H' := Asd.mk H
                  clear H
                  have hnb12 := NB389_390.out
                  have hnc12 := NB390_389.out
                  have hcz13_0 : wr.cell? ⟨gb389, 0, none⟩ = some (.int .i64 a0_0) := (bCl BK389.out 0).trans rfl
                  have hcz13_1 : wr.cell? ⟨gb389, 1, none⟩ = some (.int .i64 a0_1) := (bCl BK389.out 1).trans rfl
                  have hcz13_2 : wr.cell? ⟨gb389, 2, none⟩ = some (.int .i64 a0_2) := (bCl BK389.out 2).trans rfl
                  have hcz13_3 : wr.cell? ⟨gb389, 3, none⟩ = some (.int .i64 a0_3) := (bCl BK389.out 3).trans rfl
                  have hcz13_4 : wr.cell? ⟨gb389, 4, none⟩ = some (.string a0_4) := (bCl BK389.out 4).trans rfl
                  have hcz13_5 : wr.cell? ⟨gb389, 5, none⟩ = some (.slice A0_5 l0_5.length c0_5) := (bCl BK389.out 5).trans rfl
                  have hfz13_0 := bFz BK389.out 0
                  have hfz13_1 := bFz BK389.out 1
                  have hfz13_2 := bFz BK389.out 2
                  have hfz13_3 := bFz BK389.out 3
                  have hfz13_4 := bFz BK389.out 4
                  have hfz13_5 := bFz BK389.out 5
                  have p391 : 0 ≤ (x6_1 : Int) := of_decide_eq_true (by first | (with_reducible assumption) | assumption)
                  have q391 : x6_1 < (l0_5.length : Int) := of_decide_eq_true (by first | (with_reducible assumption) | assumption)
                  obtain ⟨ad391, A391_5, c391_5, e391, hx391_0, hx391_1, hx391_2, hx391_3, hx391_4, hx391_5, hl391_5, hi391_5⟩ := at_T24 (Kd.V_reads' HO_390005.out).2.2 x6_1 p391 q391
                  cases e391
                  obtain ⟨ce391, hce391, hMe391, hcc391⟩ := Kd.V_get HO_390005.out z24 x6_1 p391 (by first | exact q391 | exact of_decide_eq_true (by first | (with_reducible assumption) | assumption) | (have e_ := (Kd.V_reads' HO_390005.out).1; omega))
                  obtain ⟨ua391_5, uc391_5, rfl, ul391_5, ge391_5⟩ := k24_openF hMe391
                  have hv391_5 := hcc391 5 _ rfl
                  rw [add_field _ _ 5 (by omega)] at hv391_5
                  replace hv391_5 := Option.some.inj (hv391_5.symm.trans hx391_5)
                  injection hv391_5 with hva_ hvn_ hvc_
                  rw [hva_] at ge391_5
                  rw [hvc_] at ul391_5
                  have HL391_5 := Asd.mk (show Kd.V k24 24 _ w.heap.size _ _ ((rd_T24 l0_5 x6_1).f5) from Kd.V_mk ul391_5 ge391_5)
                  clear hva_ hvn_ hvc_ ge391_5 ul391_5
                  clear hcc391 hce391
                  have HR391_5 := Asd.mk hi391_5
                  have HC391_5 := Asd.mk hl391_5
                  clear hi391_5 hl391_5
                  replace p391 := eq_true p391
                  replace q391 := eq_true q391
                  have p392 : 0 ≤ (x6_1 : Int) := of_decide_eq_true (by first | (with_reducible assumption) | assumption)
                  have q392 : x6_1 < (l0_5.length : Int) := of_decide_eq_true (by first | (with_reducible assumption) | assumption)
                  obtain ⟨ad392, A392_5, c392_5, e392, hx392_0, hx392_1, hx392_2, hx392_3, hx392_4, hx392_5, hl392_5, hi392_5⟩ := at_T24 (Kd.V_reads' HO_390005.out).2.2 x6_1 p392 q392
                  obtain rfl : ad391 = ad392 := (by injection e392)
                  obtain ⟨ce392, hce392, hMe392, hcc392⟩ := Kd.V_get HO_390005.out z24 x6_1 p392 (by first | exact q392 | exact of_decide_eq_true (by first | (with_reducible assumption) | assumption) | (have e_ := (Kd.V_reads' HO_390005.out).1; omega))
                  obtain ⟨ua392_5, uc392_5, rfl, ul392_5, ge392_5⟩ := k24_openF hMe392
                  have hv392_5 := hcc392 5 _ rfl
                  rw [add_field _ _ 5 (by omega)] at hv392_5
                  replace hv392_5 := Option.some.inj (hv392_5.symm.trans hx392_5)
                  injection hv392_5 with hva_ hvn_ hvc_
                  rw [hva_] at ge392_5
                  rw [hvc_] at ul392_5
                  have HL392_5 := Asd.mk (show Kd.V k24 24 _ w.heap.size _ _ ((rd_T24 l0_5 x6_1).f5) from Kd.V_mk ul392_5 ge392_5)
                  clear hva_ hvn_ hvc_ ge392_5 ul392_5
                  clear hcc392 hce392
                  have HR392_5 := Asd.mk hi392_5
                  have HC392_5 := Asd.mk hl392_5
                  clear hi392_5 hl392_5
                  replace p392 := eq_true p392
                  replace q392 := eq_true q392
                  have ea_ := Option.some.inj (hx391_5.symm.trans hx392_5)
                  injection ea_ with ea_ en_ ec_
                  subst ea_
                  subst ec_
                  clear en_
                  go_wp2_with (first | ((with_reducible refine gate_builtin (b := .append) (xs := #[.tmp 30, .tmp 37]) rfl ?_); at_builtin; refine Kd.R_append (Kd.int .i64) (w0 := w) w.heap.size rfl (.tmp 30) (.tmp 37) 33 3 (.int .i64 0) 8 rfl Try.underlying33 info3 rfl (by decide) (by omega) u4 x4_1 ((rd_T24 l0_5 x6_1).f2) [.int .i64 ((rd_T24 l0_5 x6_1).f2)] (fun k_ => (w.heap.size ≤ k_) ∧ some k_ ≠ (u5 : Value).ownBlock) (fun _ => False) rfl rfl ?aP (fun _ hk => hk.elim) ?aF ?aO ?aB ?aS ?aL ?_; (case aP => exact rfl); (case aB => exact (by repeat (first | (with_reducible first | exact HB.out | apply wAl | apply pDN | apply wDr | refine wSt ?_ GE389.out | refine wSt ?_ GE390.out) | exact HB.out))); (case aF => exact (fun k_ hk => ⟨(Nat.le_trans (wSz (by repeat (first | (with_reducible first | exact HB.out | apply wAl | apply pDN | apply wDr | refine wSt ?_ GE389.out | refine wSt ?_ GE390.out) | exact HB.out))) hk), Kd.fresh' (Kd.R_lt (by (with_reducible repeat (first | apply Kd.R_alloc | apply Kd.R_drewN | apply Kd.R_drew)); exact HO_5.out)) k_ hk⟩)); (case aO => exact (by (with_reducible repeat (first | apply Kd.R_alloc | apply Kd.R_drewN | apply Kd.R_drew)); exact HO_4.out)); (case aS => exact (wSz (by repeat (first | (with_reducible first | exact HB.out | apply wAl | apply pDN | apply wDr | refine wSt ?_ GE389.out | refine wSt ?_ GE390.out) | exact HB.out)))); (case aL => have := LMc10.out; omega); intro v394 w14 ho hb hg hat; rw [← Ny393.out] at ho; have n0_ := Asd.mk (Kd.R_after (ok := (fun k_ => (w.heap.size ≤ k_))) (by (with_reducible repeat (first | apply Kd.R_alloc | apply Kd.R_drewN | apply Kd.R_drew)); exact HO_5.out) hg hat); have n1_ := Asd.mk (Kd.V_afterv (ok := (fun k_ => (P0_5_ k_ ∨ w.heap.size ≤ k_) ∧ some k_ ≠ (u5 : Value).ownBlock ∧ k_ ≠ gb389 ∧ k_ ≠ gb390)) (by (with_reducible repeat (first | apply Kd.V_alloc | apply Kd.V_drewN | apply Kd.V_drew)); exact Kd.V_mono HO_390005.out (fun _ hk => ⟨⟨hk.1, ⟨hk.2.2.1, ⟨hk.2.2.2.1, hk.2.2.2.2⟩⟩⟩, hk.2.1⟩)) hg hat); have n2_ := Asd.mk (blk_grown (g := gb389) (o := .cells #[.int .i64 a0_0, .int .i64 a0_1, .int .i64 a0_2, .int .i64 a0_3, .string a0_4, .slice (some ad391) l0_5.length c0_5] 24 (0, 0)) (by (with_reducible repeat (first | refine bDN ?_ _ | refine bDr ?_ | refine bAl ?_ _)); exact BK389.out) hg (Kd.R_ne HO_4.out BK389.out (by decide))); have n3_ := Asd.mk (blk_grown (g := gb390) (o := .cells #[.int .i64 x391000_1, .int .i64 x391001_1, .int .i64 x391002_1, .int .i64 x391003_1, .string x391004_1, .slice none 0 0] 24 (0, 0)) (by (with_reducible repeat (first | refine bDN ?_ _ | refine bDr ?_ | refine bAl ?_ _)); exact BK390.out) hg (Kd.R_ne HO_4.out BK390.out (by decide))); have n4_ := Asd.mk (Kd.V_afterv (ok := (fun k_ => (P0_5_ k_ ∨ w.heap.size ≤ k_) ∧ some k_ ≠ (u5 : Value).ownBlock ∧ k_ ≠ gb389 ∧ k_ ≠ gb390)) (by (with_reducible repeat (first | apply Kd.V_alloc | apply Kd.V_drewN | apply Kd.V_drew)); exact Kd.V_mono HL391_5.out (fun _ hk => ⟨⟨hk.1, ⟨hk.2.2.1, ⟨hk.2.2.2.1, hk.2.2.2.2⟩⟩⟩, hk.2.1⟩)) hg hat); have n5_ := Asd.mk (Kd.V_afterv (ok := (fun k_ => (P0_5_ k_ ∨ w.heap.size ≤ k_) ∧ some k_ ≠ (u5 : Value).ownBlock ∧ k_ ≠ gb389 ∧ k_ ≠ gb390)) (by (with_reducible repeat (first | apply Kd.V_alloc | apply Kd.V_drewN | apply Kd.V_drew)); exact Kd.V_mono HL392_5.out (fun _ hk => ⟨⟨hk.1, ⟨hk.2.2.1, ⟨hk.2.2.2.1, hk.2.2.2.2⟩⟩⟩, hk.2.1⟩)) hg hat); have n6_ := Asd.mk (hb); have n7_ := Asd.mk (ho); clear HO_5; clear HO_390005; clear BK389; clear BK390; clear HL391_5; clear HL392_5; clear HB; clear HO_4; have HO_5 := n0_; have HO_390005 := n1_; have BK389 := n2_; have BK390 := n3_; have HL391_5 := n4_; have HL392_5 := n5_; have HB := n6_; have HO395 := n7_; clear n0_ n1_ n2_ n3_ n4_ n5_ n6_ n7_; clear ho hb hg hat; have hcz15_0 : w14.cell? ⟨gb389, 0, none⟩ = some (.int .i64 a0_0) := (bCl BK389.out 0).trans rfl; have hcz15_1 : w14.cell? ⟨gb389, 1, none⟩ = some (.int .i64 a0_1) := (bCl BK389.out 1).trans rfl; have hcz15_2 : w14.cell? ⟨gb389, 2, none⟩ = some (.int .i64 a0_2) := (bCl BK389.out 2).trans rfl; have hcz15_3 : w14.cell? ⟨gb389, 3, none⟩ = some (.int .i64 a0_3) := (bCl BK389.out 3).trans rfl; have hcz15_4 : w14.cell? ⟨gb389, 4, none⟩ = some (.string a0_4) := (bCl BK389.out 4).trans rfl; have hcz15_5 : w14.cell? ⟨gb389, 5, none⟩ = some (.slice (some ad391) l0_5.length c0_5) := (bCl BK389.out 5).trans rfl; have hfz15_0 := bFz BK389.out 0; have hfz15_1 := bFz BK389.out 1; have hfz15_2 := bFz BK389.out 2; have hfz15_3 := bFz BK389.out 3; have hfz15_4 := bFz BK389.out 4; have hfz15_5 := bFz BK389.out 5; have p396 : 0 ≤ (x6_1 : Int) := of_decide_eq_true (by first | (with_reducible assumption) | assumption); have q396 : x6_1 < (l0_5.length : Int) := of_decide_eq_true (by first | (with_reducible assumption) | assumption); obtain ⟨ad396, A396_5, c396_5, e396, hx396_0, hx396_1, hx396_2, hx396_3, hx396_4, hx396_5, hl396_5, hi396_5⟩ := at_T24 (Kd.V_reads' HO_390005.out).2.2 x6_1 p396 q396; obtain rfl : ad391 = ad396 := (by injection e396); obtain ⟨ce396, hce396, hMe396, hcc396⟩ := Kd.V_get HO_390005.out z24 x6_1 p396 (by first | exact q396 | exact of_decide_eq_true (by first | (with_reducible assumption) | assumption) | (have e_ := (Kd.V_reads' HO_390005.out).1; omega)); obtain ⟨ua396_5, uc396_5, rfl, ul396_5, ge396_5⟩ := k24_openF hMe396; have hv396_5 := hcc396 5 _ rfl; rw [add_field _ _ 5 (by omega)] at hv396_5; replace hv396_5 := Option.some.inj (hv396_5.symm.trans hx396_5); injection hv396_5 with hva_ hvn_ hvc_; rw [hva_] at ge396_5; rw [hvc_] at ul396_5; have HL396_5 := Asd.mk (show Kd.V k24 24 _ w.heap.size _ _ ((rd_T24 l0_5 x6_1).f5) from Kd.V_mk ul396_5 ge396_5); clear hva_ hvn_ hvc_ ge396_5 ul396_5; clear hcc396 hce396; have HR396_5 := Asd.mk hi396_5; have HC396_5 := Asd.mk hl396_5; clear hi396_5 hl396_5; replace p396 := eq_true p396; replace q396 := eq_true q396) | ((with_reducible refine gate_builtin (b := .append) (xs := #[.tmp 39, .tmp 46]) rfl ?_); at_builtin; refine Kd.R_append (Kd.int .i64) (w0 := w) w.heap.size rfl (.tmp 39) (.tmp 46) 33 3 (.int .i64 0) 8 rfl Try.underlying33 info3 rfl (by decide) (by omega) u5 x5_1 ((rd_T24 l0_5 x6_1).f3) [.int .i64 ((rd_T24 l0_5 x6_1).f3)] (fun k_ => (w.heap.size ≤ k_) ∧ some k_ ≠ (v394 : Value).ownBlock) (fun _ => False) rfl rfl ?aP (fun _ hk => hk.elim) ?aF ?aO ?aB ?aS ?aL ?_; (case aP => exact rfl); (case aB => exact (by repeat (first | (with_reducible first | exact HB.out | apply wAl | apply pDN | apply wDr | refine wSt ?_ GE389.out | refine wSt ?_ GE390.out) | exact HB.out))); (case aF => exact (fun k_ hk => ⟨(Nat.le_trans (wSz (by repeat (first | (with_reducible first | exact HB.out | apply wAl | apply pDN | apply wDr | refine wSt ?_ GE389.out | refine wSt ?_ GE390.out) | exact HB.out))) hk), Kd.fresh' (Kd.R_lt (by (with_reducible repeat (first | apply Kd.R_alloc | apply Kd.R_drewN | apply Kd.R_drew)); exact HO395.out)) k_ hk⟩)); (case aO => exact (by (with_reducible repeat (first | apply Kd.R_alloc | apply Kd.R_drewN | apply Kd.R_drew)); exact HO_5.out)); (case aS => exact (wSz (by repeat (first | (with_reducible first | exact HB.out | apply wAl | apply pDN | apply wDr | refine wSt ?_ GE389.out | refine wSt ?_ GE390.out) | exact HB.out)))); (case aL => have := LMc11.out; omega); intro v398 w16 ho hb hg hat; rw [← Ny397.out] at ho; have n0_ := Asd.mk (Kd.V_afterv (ok := (fun k_ => (P0_5_ k_ ∨ w.heap.size ≤ k_) ∧ some k_ ≠ (v394 : Value).ownBlock ∧ k_ ≠ gb389 ∧ k_ ≠ gb390)) (by (with_reducible repeat (first | apply Kd.V_alloc | apply Kd.V_drewN | apply Kd.V_drew)); exact Kd.V_mono HO_390005.out (fun _ hk => ⟨⟨hk.1.1, ⟨hk.2, ⟨hk.1.2.2.1, hk.1.2.2.2⟩⟩⟩, hk.1.2.1⟩)) hg hat); have n1_ := Asd.mk (blk_grown (g := gb389) (o := .cells #[.int .i64 a0_0, .int .i64 a0_1, .int .i64 a0_2, .int .i64 a0_3, .string a0_4, .slice (some ad391) l0_5.length c0_5] 24 (0, 0)) (by (with_reducible repeat (first | refine bDN ?_ _ | refine bDr ?_ | refine bAl ?_ _)); exact BK389.out) hg (Kd.R_ne HO_5.out BK389.out (by decide))); have n2_ := Asd.mk (blk_grown (g := gb390) (o := .cells #[.int .i64 x391000_1, .int .i64 x391001_1, .int .i64 x391002_1, .int .i64 x391003_1, .string x391004_1, .slice none 0 0] 24 (0, 0)) (by (with_reducible repeat (first | refine bDN ?_ _ | refine bDr ?_ | refine bAl ?_ _)); exact BK390.out) hg (Kd.R_ne HO_5.out BK390.out (by decide))); have n3_ := Asd.mk (Kd.V_afterv (ok := (fun k_ => (P0_5_ k_ ∨ w.heap.size ≤ k_) ∧ some k_ ≠ (v394 : Value).ownBlock ∧ k_ ≠ gb389 ∧ k_ ≠ gb390)) (by (with_reducible repeat (first | apply Kd.V_alloc | apply Kd.V_drewN | apply Kd.V_drew)); exact Kd.V_mono HL391_5.out (fun _ hk => ⟨⟨hk.1.1, ⟨hk.2, ⟨hk.1.2.2.1, hk.1.2.2.2⟩⟩⟩, hk.1.2.1⟩)) hg hat); have n4_ := Asd.mk (Kd.V_afterv (ok := (fun k_ => (P0_5_ k_ ∨ w.heap.size ≤ k_) ∧ some k_ ≠ (v394 : Value).ownBlock ∧ k_ ≠ gb389 ∧ k_ ≠ gb390)) (by (with_reducible repeat (first | apply Kd.V_alloc | apply Kd.V_drewN | apply Kd.V_drew)); exact Kd.V_mono HL392_5.out (fun _ hk => ⟨⟨hk.1.1, ⟨hk.2, ⟨hk.1.2.2.1, hk.1.2.2.2⟩⟩⟩, hk.1.2.1⟩)) hg hat); have n5_ := Asd.mk (Kd.R_after (ok := (fun k_ => (w.heap.size ≤ k_))) (by (with_reducible repeat (first | apply Kd.R_alloc | apply Kd.R_drewN | apply Kd.R_drew)); exact HO395.out) hg hat); have n6_ := Asd.mk (Kd.V_afterv (ok := (fun k_ => (P0_5_ k_ ∨ w.heap.size ≤ k_) ∧ some k_ ≠ (v394 : Value).ownBlock ∧ k_ ≠ gb389 ∧ k_ ≠ gb390)) (by (with_reducible repeat (first | apply Kd.V_alloc | apply Kd.V_drewN | apply Kd.V_drew)); exact Kd.V_mono HL396_5.out (fun _ hk => ⟨⟨hk.1.1, ⟨hk.2, ⟨hk.1.2.2.1, hk.1.2.2.2⟩⟩⟩, hk.1.2.1⟩)) hg hat); have n7_ := Asd.mk (hb); have n8_ := Asd.mk (ho); clear HO_390005; clear BK389; clear BK390; clear HL391_5; clear HL392_5; clear HO395; clear HL396_5; clear HB; clear HO_5; have HO_390005 := n0_; have BK389 := n1_; have BK390 := n2_; have HL391_5 := n3_; have HL392_5 := n4_; have HO395 := n5_; have HL396_5 := n6_; have HB := n7_; have HO399 := n8_; clear n0_ n1_ n2_ n3_ n4_ n5_ n6_ n7_ n8_; clear ho hb hg hat))
                  go_roundg k1
                  case measure => have := HK1.out; omega
                  case rel => exact ⟨(y393), (y397), (wrap64 (x6_1 + 1)), (x391000_1), (x391001_1), (x391002_1), (x391003_1), (x391004_1), (by first | rfl | (simp; done) | (simp [*]; done)), H', ⟨by have := HK1.out; omega⟩, ⟨by (with_reducible repeat (first | apply Kd.R_alloc | apply Kd.R_drewN | apply Kd.R_drew)); exact HO395.out⟩, ⟨by (with_reducible repeat (first | apply Kd.R_alloc | apply Kd.R_drewN | apply Kd.R_drew)); exact HO399.out⟩, ⟨by (with_reducible repeat (first | apply Kd.V_alloc | apply Kd.V_drewN | apply Kd.V_drew)); exact Kd.V_mono HO_390005.out (fun _ hk => ⟨hk.1.1, ⟨hk.1.2.1, ⟨hk.2, ⟨hk.1.2.2.1, hk.1.2.2.2⟩⟩⟩⟩)⟩, ⟨by (with_reducible repeat (first | refine bDN ?_ _ | refine bDr ?_ | refine bAl ?_ _)); exact BK389.out⟩, ⟨by (with_reducible repeat (first | refine bDN ?_ _ | refine bDr ?_ | refine bAl ?_ _)); exact BK390.out⟩, ⟨by repeat (first | (with_reducible first | exact HB.out | apply wAl | apply pDN | apply wDr | refine wSt ?_ GE389.out | refine wSt ?_ GE390.out) | exact HB.out)⟩⟩
                · rw [if_neg c11] at H
                  exact absurd H (by simp)
              · rw [if_neg c10] at H
                exact absurd H (by simp)
            · rw [if_neg c9] at H
              have c9b0 : (((rd_T24 l0_5 x6_1).f0) == 1) = false := beq_eq_false_iff_ne.mpr c9
              have c9b1 : (((rd_T24 l0_5 x6_1).f0) != 1) = true := bne_iff_ne.mpr c9
              simp only [Option.some.injEq, Prod.mk.injEq] at H
              obtain ⟨rfl, rfl, rfl, rfl, rfl, rfl, rfl⟩ := H
              have hnb17 := NB389_390.out
              have hnc17 := NB390_389.out
              have hcz18_0 : wr.cell? ⟨gb389, 0, none⟩ = some (.int .i64 a0_0) := (bCl BK389.out 0).trans rfl
              have hcz18_1 : wr.cell? ⟨gb389, 1, none⟩ = some (.int .i64 a0_1) := (bCl BK389.out 1).trans rfl
              have hcz18_2 : wr.cell? ⟨gb389, 2, none⟩ = some (.int .i64 a0_2) := (bCl BK389.out 2).trans rfl
              have hcz18_3 : wr.cell? ⟨gb389, 3, none⟩ = some (.int .i64 a0_3) := (bCl BK389.out 3).trans rfl
              have hcz18_4 : wr.cell? ⟨gb389, 4, none⟩ = some (.string a0_4) := (bCl BK389.out 4).trans rfl
              have hcz18_5 : wr.cell? ⟨gb389, 5, none⟩ = some (.slice A0_5 l0_5.length c0_5) := (bCl BK389.out 5).trans rfl
              have hfz18_0 := bFz BK389.out 0
              have hfz18_1 := bFz BK389.out 1
              have hfz18_2 := bFz BK389.out 2
              have hfz18_3 := bFz BK389.out 3
              have hfz18_4 := bFz BK389.out 4
              have hfz18_5 := bFz BK389.out 5
              have p391 : 0 ≤ (x6_1 : Int) := of_decide_eq_true (by first | (with_reducible assumption) | assumption)
              have q391 : x6_1 < (l0_5.length : Int) := of_decide_eq_true (by first | (with_reducible assumption) | assumption)
              obtain ⟨ad391, A391_5, c391_5, e391, hx391_0, hx391_1, hx391_2, hx391_3, hx391_4, hx391_5, hl391_5, hi391_5⟩ := at_T24 (Kd.V_reads' HO_390005.out).2.2 x6_1 p391 q391
              cases e391
              obtain ⟨ce391, hce391, hMe391, hcc391⟩ := Kd.V_get HO_390005.out z24 x6_1 p391 (by first | exact q391 | exact of_decide_eq_true (by first | (with_reducible assumption) | assumption) | (have e_ := (Kd.V_reads' HO_390005.out).1; omega))
              obtain ⟨ua391_5, uc391_5, rfl, ul391_5, ge391_5⟩ := k24_openF hMe391
              have hv391_5 := hcc391 5 _ rfl
              rw [add_field _ _ 5 (by omega)] at hv391_5
              replace hv391_5 := Option.some.inj (hv391_5.symm.trans hx391_5)
              injection hv391_5 with hva_ hvn_ hvc_
              rw [hva_] at ge391_5
              rw [hvc_] at ul391_5
              have HL391_5 := Asd.mk (show Kd.V k24 24 _ w.heap.size _ _ ((rd_T24 l0_5 x6_1).f5) from Kd.V_mk ul391_5 ge391_5)
              clear hva_ hvn_ hvc_ ge391_5 ul391_5
              clear hcc391 hce391
              have HR391_5 := Asd.mk hi391_5
              have HC391_5 := Asd.mk hl391_5
              clear hi391_5 hl391_5
              replace p391 := eq_true p391
              replace q391 := eq_true q391
              have hcz19_0 : wr.cell? ⟨gb390, 0, none⟩ = some (.int .i64 x391000_1) := (bCl BK390.out 0).trans rfl
              have hcz19_1 : wr.cell? ⟨gb390, 1, none⟩ = some (.int .i64 x391001_1) := (bCl BK390.out 1).trans rfl
              have hcz19_2 : wr.cell? ⟨gb390, 2, none⟩ = some (.int .i64 x391002_1) := (bCl BK390.out 2).trans rfl
              have hcz19_3 : wr.cell? ⟨gb390, 3, none⟩ = some (.int .i64 x391003_1) := (bCl BK390.out 3).trans rfl
              have hcz19_4 : wr.cell? ⟨gb390, 4, none⟩ = some (.string x391004_1) := (bCl BK390.out 4).trans rfl
              have hcz19_5 : wr.cell? ⟨gb390, 5, none⟩ = some (.slice none 0 0) := (bCl BK390.out 5).trans rfl
              have hfz19_0 := bFz BK390.out 0
              have hfz19_1 := bFz BK390.out 1
              have hfz19_2 := bFz BK390.out 2
              have hfz19_3 := bFz BK390.out 3
              have hfz19_4 := bFz BK390.out 4
              have hfz19_5 := bFz BK390.out 5
              go_wp2
              refine bodyPost_ret (results_ct rfl _ _ gb390 24 #[.int .i64 a0_0, .int .i64 a0_1, .int .i64 a0_2, .int .i64 a0_3, .string a0_4, .slice (some ad391) l0_5.length c0_5] (0, 0) _ rfl (by (with_reducible repeat (first | refine bDN ?_ _ | refine bDr ?_ | refine bAl ?_ _)); refine blk_put (cs := #[.int .i64 a0_0, .int .i64 a0_1, .int .i64 a0_2, .int .i64 a0_3, .string a0_4, .slice none 0 0]) ?_ 5 _ rfl; (with_reducible repeat (first | refine bDN ?_ _ | refine bDr ?_ | refine bAl ?_ _)); refine blk_put (cs := #[.int .i64 a0_0, .int .i64 a0_1, .int .i64 a0_2, .int .i64 a0_3, .string x391004_1, .slice none 0 0]) ?_ 4 _ rfl; (with_reducible repeat (first | refine bDN ?_ _ | refine bDr ?_ | refine bAl ?_ _)); refine blk_put (cs := #[.int .i64 a0_0, .int .i64 a0_1, .int .i64 a0_2, .int .i64 x391003_1, .string x391004_1, .slice none 0 0]) ?_ 3 _ rfl; (with_reducible repeat (first | refine bDN ?_ _ | refine bDr ?_ | refine bAl ?_ _)); refine blk_put (cs := #[.int .i64 a0_0, .int .i64 a0_1, .int .i64 x391002_1, .int .i64 x391003_1, .string x391004_1, .slice none 0 0]) ?_ 2 _ rfl; (with_reducible repeat (first | refine bDN ?_ _ | refine bDr ?_ | refine bAl ?_ _)); refine blk_put (cs := #[.int .i64 a0_0, .int .i64 x391001_1, .int .i64 x391002_1, .int .i64 x391003_1, .string x391004_1, .slice none 0 0]) ?_ 1 _ rfl; (with_reducible repeat (first | refine bDN ?_ _ | refine bDr ?_ | refine bAl ?_ _)); refine blk_put (cs := #[.int .i64 x391000_1, .int .i64 x391001_1, .int .i64 x391002_1, .int .i64 x391003_1, .string x391004_1, .slice none 0 0]) ?_ 0 _ rfl; (with_reducible repeat (first | refine bDN ?_ _ | refine bDr ?_ | refine bAl ?_ _)); exact BK390.out) Try.underlying24 rfl (by kernel_rfl)) rfl ?_
              exact ⟨_, by first | rfl | (simp [errW_none, errW_some] <;> rfl) | (simp [*, errW_none, errW_some] <;> rfl), by (with_reducible repeat (first | apply Kd.V_alloc | apply Kd.V_drewN | apply Kd.V_drew)); exact Kd.V_mono (Kd.V_far (p := ⟨gb390, 5, none⟩) (Kd.V_far (p := ⟨gb390, 4, none⟩) (Kd.V_far (p := ⟨gb390, 3, none⟩) (Kd.V_far (p := ⟨gb390, 2, none⟩) (Kd.V_far (p := ⟨gb390, 1, none⟩) (Kd.V_far (p := ⟨gb390, 0, none⟩) (Kd.V_mono HO_390005.out (fun k_ hk => (⟨hk, hk.2.2.2.2⟩ : _ ∧ k_ ≠ gb390))) (fun _ hk => hk.2) (.int .i64 a0_0)) (fun _ hk => hk.2) (.int .i64 a0_1)) (fun _ hk => hk.2) (.int .i64 a0_2)) (fun _ hk => hk.2) (.int .i64 a0_3)) (fun _ hk => hk.2) (.string a0_4)) (fun _ hk => hk.2) (.slice (some ad391) l0_5.length c0_5)) (fun _ hk => hk.1.1), by repeat (first | (with_reducible first | exact HB.out | apply wAl | apply pDN | apply wDr | refine wSt ?_ GE389.out | refine wSt ?_ GE390.out) | exact HB.out)⟩
          · rw [if_neg c8] at H
            exact absurd H (by simp)
        · rw [if_neg c7] at H
          have c7b0 : decide (x6_1 < (l0_5.length : Int)) = false := decide_eq_false c7
          clear c7
          replace H := Option.bind_eq_some_iff.mp H
          obtain ⟨⟨t400, t401⟩, A200, H⟩ := H
          replace H : ((r05Apply.f k1 a0_1 x5_1).bind fun bt402 => (if t401 = 0 then (if bt402.2 = 0 then (some (1, 0, t400, bt402.1, (⟨#[]⟩ : ByteArray), ([] : List (S24)), true)) else (some (a0_0, a0_1, a0_2, a0_3, a0_4, l0_5, false))) else (some (a0_0, a0_1, a0_2, a0_3, a0_4, l0_5, false)))) = some (r1, r2, r3, r4, r5, r6, r7) := H
          have A20 := Asd.mk A200
          clear A200
          replace H := Option.bind_eq_some_iff.mp H
          obtain ⟨⟨t402, t403⟩, A210, H⟩ := H
          replace H : (if t401 = 0 then (if t403 = 0 then (some (1, 0, t400, t402, (⟨#[]⟩ : ByteArray), ([] : List (S24)), true)) else (some (a0_0, a0_1, a0_2, a0_3, a0_4, l0_5, false))) else (some (a0_0, a0_1, a0_2, a0_3, a0_4, l0_5, false))) = some (r1, r2, r3, r4, r5, r6, r7) := H
          have A21 := Asd.mk A210
          clear A210
          by_cases c22 : t401 = 0
          · rw [if_pos c22] at H
            have c22b0 : (t401 == 0) = true := beq_iff_eq.mpr c22
            have c22b1 : (t401 != 0) = false := bne_eq_false_iff_eq.mpr c22
            clear c22
            by_cases c23 : t403 = 0
            · rw [if_pos c23] at H
              have c23b0 : (t403 == 0) = true := beq_iff_eq.mpr c23
              have c23b1 : (t403 != 0) = false := bne_eq_false_iff_eq.mpr c23
              clear c23
              simp only [Option.some.injEq, Prod.mk.injEq] at H
              obtain ⟨rfl, rfl, rfl, rfl, rfl, rfl, rfl⟩ := H
              have hnb24 := NB389_390.out
              have hnc24 := NB390_389.out
              have hcz25_0 : wr.cell? ⟨gb389, 0, none⟩ = some (.int .i64 a0_0) := (bCl BK389.out 0).trans rfl
              have hcz25_1 : wr.cell? ⟨gb389, 1, none⟩ = some (.int .i64 a0_1) := (bCl BK389.out 1).trans rfl
              have hcz25_2 : wr.cell? ⟨gb389, 2, none⟩ = some (.int .i64 a0_2) := (bCl BK389.out 2).trans rfl
              have hcz25_3 : wr.cell? ⟨gb389, 3, none⟩ = some (.int .i64 a0_3) := (bCl BK389.out 3).trans rfl
              have hcz25_4 : wr.cell? ⟨gb389, 4, none⟩ = some (.string a0_4) := (bCl BK389.out 4).trans rfl
              have hcz25_5 : wr.cell? ⟨gb389, 5, none⟩ = some (.slice A0_5 l0_5.length c0_5) := (bCl BK389.out 5).trans rfl
              have hfz25_0 := bFz BK389.out 0
              have hfz25_1 := bFz BK389.out 1
              have hfz25_2 := bFz BK389.out 2
              have hfz25_3 := bFz BK389.out 3
              have hfz25_4 := bFz BK389.out 4
              have hfz25_5 := bFz BK389.out 5
              obtain ⟨Ao26, co26, eo26⟩ := Kd.R_slice HO_4.out
              subst eo26
              go_wp2_with (first | ((with_reducible refine gate_callee (f := 48) rfl ?_); refine goesL_ (some 52) rfl rfl Try.func48 (by kernel_rfl) rfl #[.int .i64 a0_1, .slice Ao26 x4_1.length co26] rfl (by (try simp only [List.map_toArray, List.map_cons, List.map_nil]); first | done | rfl | (simp only [List.length_drop, List.length_take]; rfl)) ?_; (with_reducible refine (r05Result.calls k1 a0_1 _ _ x4_1 t400 t401 _ ?side1 ?side2 A20.out).mono ?_); (case side1 => repeat (first | exact (Kd.R_reads' HO_4.out).2.2 | (with_reducible refine Kd.C_alloc ?_ _) | (with_reducible refine Kd.C_drewN ?_ _) | (with_reducible refine Kd.C_drew ?_))); (case side2 => exact (Kd.R_reads' HO_4.out).2.1); rintro e w' ⟨rfl, ⟨nd, rfl⟩⟩; refine ⟨_, rfl, ?_⟩; (try (rw [drewN_self wr]; generalize hq_ : World.drewN wr _ = wr; have n0_ : Asd (Kd.V k24 24 wr w.heap.size (fun k_ => (P0_5_ k_ ∨ w.heap.size ≤ k_) ∧ some k_ ≠ (.slice Ao26 x4_1.length co26 : Value).ownBlock ∧ some k_ ≠ (u5 : Value).ownBlock ∧ k_ ≠ gb389 ∧ k_ ≠ gb390) (.slice A0_5 l0_5.length c0_5) l0_5) := ⟨by rw [← hq_]; exact (by (with_reducible repeat (first | apply Kd.V_alloc | apply Kd.V_drewN | apply Kd.V_drew)); exact HO_390005.out)⟩; have n1_ : Asd (Kd.R (Kd.int .i64) 3 wr w.heap.size (fun k_ => (w.heap.size ≤ k_) ∧ some k_ ≠ (u5 : Value).ownBlock) (.slice Ao26 x4_1.length co26) x4_1) := ⟨by rw [← hq_]; exact (by (with_reducible repeat (first | apply Kd.R_alloc | apply Kd.R_drewN | apply Kd.R_drew)); exact HO_4.out)⟩; have n2_ : Asd (Kd.R (Kd.int .i64) 3 wr w.heap.size (fun k_ => (w.heap.size ≤ k_) ∧ some k_ ≠ (.slice Ao26 x4_1.length co26 : Value).ownBlock) u5 x5_1) := ⟨by rw [← hq_]; exact (by (with_reducible repeat (first | apply Kd.R_alloc | apply Kd.R_drewN | apply Kd.R_drew)); exact HO_5.out)⟩; have n3_ : Asd (wr.heap[gb389]? = some (.cells #[.int .i64 a0_0, .int .i64 a0_1, .int .i64 a0_2, .int .i64 a0_3, .string a0_4, .slice A0_5 l0_5.length c0_5] 24 (0, 0))) := ⟨by rw [← hq_]; exact (by (with_reducible repeat (first | refine bDN ?_ _ | refine bDr ?_ | refine bAl ?_ _)); exact BK389.out)⟩; have n4_ : Asd (wr.heap[gb390]? = some (.cells #[.int .i64 x391000_1, .int .i64 x391001_1, .int .i64 x391002_1, .int .i64 x391003_1, .string x391004_1, .slice none 0 0] 24 (0, 0))) := ⟨by rw [← hq_]; exact (by (with_reducible repeat (first | refine bDN ?_ _ | refine bDr ?_ | refine bAl ?_ _)); exact BK390.out)⟩; have n5_ : Asd (Below w.heap.size w wr) := ⟨by rw [← hq_]; exact (by repeat (first | (with_reducible first | exact HB.out | apply wAl | apply pDN | apply wDr | refine wSt ?_ GE389.out | refine wSt ?_ GE390.out) | exact HB.out))⟩; clear HO_390005 HO_4 HO_5 BK389 BK390 HB hq_; have HO_390005 := n0_; have HO_4 := n1_; have HO_5 := n2_; have BK389 := n3_; have BK390 := n4_; have HB := n5_; clear n0_ n1_ n2_ n3_ n4_ n5_)); obtain ⟨Ao27, co27, eo27⟩ := Kd.R_slice HO_5.out; subst eo27; have hczR_0 : wr.cell? ⟨gb389, 0, none⟩ = some (.int .i64 a0_0) := (bCl BK389.out 0).trans rfl; have hfzR_0 := bFz BK389.out 0; have hczR_1 : wr.cell? ⟨gb389, 1, none⟩ = some (.int .i64 a0_1) := (bCl BK389.out 1).trans rfl; have hfzR_1 := bFz BK389.out 1; have hczR_2 : wr.cell? ⟨gb389, 2, none⟩ = some (.int .i64 a0_2) := (bCl BK389.out 2).trans rfl; have hfzR_2 := bFz BK389.out 2; have hczR_3 : wr.cell? ⟨gb389, 3, none⟩ = some (.int .i64 a0_3) := (bCl BK389.out 3).trans rfl; have hfzR_3 := bFz BK389.out 3; have hczR_4 : wr.cell? ⟨gb389, 4, none⟩ = some (.string a0_4) := (bCl BK389.out 4).trans rfl; have hfzR_4 := bFz BK389.out 4; have hczR_5 : wr.cell? ⟨gb389, 5, none⟩ = some (.slice A0_5 l0_5.length c0_5) := (bCl BK389.out 5).trans rfl; have hfzR_5 := bFz BK389.out 5) | ((with_reducible refine gate_callee (f := 49) rfl ?_); refine goesL_ (some 59) rfl rfl Try.func49 (by kernel_rfl) rfl #[.int .i64 a0_1, .slice Ao27 x5_1.length co27] rfl (by (try simp only [List.map_toArray, List.map_cons, List.map_nil]); first | done | rfl | (simp only [List.length_drop, List.length_take]; rfl)) ?_; (with_reducible refine (r05Apply.calls k1 a0_1 _ _ x5_1 t402 t403 _ ?side1 ?side2 A21.out).mono ?_); (case side1 => repeat (first | exact (Kd.R_reads' HO_5.out).2.2 | (with_reducible refine Kd.C_alloc ?_ _) | (with_reducible refine Kd.C_drewN ?_ _) | (with_reducible refine Kd.C_drew ?_))); (case side2 => exact (Kd.R_reads' HO_5.out).2.1); rintro e w' ⟨rfl, ⟨nd, rfl⟩⟩; refine ⟨_, rfl, ?_⟩; (try (rw [drewN_self wr]; generalize hq_ : World.drewN wr _ = wr; have n0_ : Asd (Kd.V k24 24 wr w.heap.size (fun k_ => (P0_5_ k_ ∨ w.heap.size ≤ k_) ∧ some k_ ≠ (.slice Ao26 x4_1.length co26 : Value).ownBlock ∧ some k_ ≠ (.slice Ao27 x5_1.length co27 : Value).ownBlock ∧ k_ ≠ gb389 ∧ k_ ≠ gb390) (.slice A0_5 l0_5.length c0_5) l0_5) := ⟨by rw [← hq_]; exact (by (with_reducible repeat (first | apply Kd.V_alloc | apply Kd.V_drewN | apply Kd.V_drew)); exact HO_390005.out)⟩; have n1_ : Asd (Kd.R (Kd.int .i64) 3 wr w.heap.size (fun k_ => (w.heap.size ≤ k_) ∧ some k_ ≠ (.slice Ao27 x5_1.length co27 : Value).ownBlock) (.slice Ao26 x4_1.length co26) x4_1) := ⟨by rw [← hq_]; exact (by (with_reducible repeat (first | apply Kd.R_alloc | apply Kd.R_drewN | apply Kd.R_drew)); exact HO_4.out)⟩; have n2_ : Asd (Kd.R (Kd.int .i64) 3 wr w.heap.size (fun k_ => (w.heap.size ≤ k_) ∧ some k_ ≠ (.slice Ao26 x4_1.length co26 : Value).ownBlock) (.slice Ao27 x5_1.length co27) x5_1) := ⟨by rw [← hq_]; exact (by (with_reducible repeat (first | apply Kd.R_alloc | apply Kd.R_drewN | apply Kd.R_drew)); exact HO_5.out)⟩; have n3_ : Asd (wr.heap[gb389]? = some (.cells #[.int .i64 a0_0, .int .i64 a0_1, .int .i64 a0_2, .int .i64 a0_3, .string a0_4, .slice A0_5 l0_5.length c0_5] 24 (0, 0))) := ⟨by rw [← hq_]; exact (by (with_reducible repeat (first | refine bDN ?_ _ | refine bDr ?_ | refine bAl ?_ _)); exact BK389.out)⟩; have n4_ : Asd (wr.heap[gb390]? = some (.cells #[.int .i64 x391000_1, .int .i64 x391001_1, .int .i64 x391002_1, .int .i64 x391003_1, .string x391004_1, .slice none 0 0] 24 (0, 0))) := ⟨by rw [← hq_]; exact (by (with_reducible repeat (first | refine bDN ?_ _ | refine bDr ?_ | refine bAl ?_ _)); exact BK390.out)⟩; have n5_ : Asd (Below w.heap.size w wr) := ⟨by rw [← hq_]; exact (by repeat (first | (with_reducible first | exact HB.out | apply wAl | apply pDN | apply wDr | refine wSt ?_ GE389.out | refine wSt ?_ GE390.out) | exact HB.out))⟩; clear HO_390005 HO_4 HO_5 BK389 BK390 HB hq_; have HO_390005 := n0_; have HO_4 := n1_; have HO_5 := n2_; have BK389 := n3_; have BK390 := n4_; have HB := n5_; clear n0_ n1_ n2_ n3_ n4_ n5_)); have hcz28_0 : wr.cell? ⟨gb390, 0, none⟩ = some (.int .i64 x391000_1) := (bCl BK390.out 0).trans rfl; have hcz28_1 : wr.cell? ⟨gb390, 1, none⟩ = some (.int .i64 x391001_1) := (bCl BK390.out 1).trans rfl; have hcz28_2 : wr.cell? ⟨gb390, 2, none⟩ = some (.int .i64 x391002_1) := (bCl BK390.out 2).trans rfl; have hcz28_3 : wr.cell? ⟨gb390, 3, none⟩ = some (.int .i64 x391003_1) := (bCl BK390.out 3).trans rfl; have hcz28_4 : wr.cell? ⟨gb390, 4, none⟩ = some (.string x391004_1) := (bCl BK390.out 4).trans rfl; have hcz28_5 : wr.cell? ⟨gb390, 5, none⟩ = some (.slice none 0 0) := (bCl BK390.out 5).trans rfl; have hfz28_0 := bFz BK390.out 0; have hfz28_1 := bFz BK390.out 1; have hfz28_2 := bFz BK390.out 2; have hfz28_3 := bFz BK390.out 3; have hfz28_4 := bFz BK390.out 4; have hfz28_5 := bFz BK390.out 5; have hczR_0 : wr.cell? ⟨gb389, 0, none⟩ = some (.int .i64 a0_0) := (bCl BK389.out 0).trans rfl; have hfzR_0 := bFz BK389.out 0; have hczR_1 : wr.cell? ⟨gb389, 1, none⟩ = some (.int .i64 a0_1) := (bCl BK389.out 1).trans rfl; have hfzR_1 := bFz BK389.out 1; have hczR_2 : wr.cell? ⟨gb389, 2, none⟩ = some (.int .i64 a0_2) := (bCl BK389.out 2).trans rfl; have hfzR_2 := bFz BK389.out 2; have hczR_3 : wr.cell? ⟨gb389, 3, none⟩ = some (.int .i64 a0_3) := (bCl BK389.out 3).trans rfl; have hfzR_3 := bFz BK389.out 3; have hczR_4 : wr.cell? ⟨gb389, 4, none⟩ = some (.string a0_4) := (bCl BK389.out 4).trans rfl; have hfzR_4 := bFz BK389.out 4; have hczR_5 : wr.cell? ⟨gb389, 5, none⟩ = some (.slice A0_5 l0_5.length c0_5) := (bCl BK389.out 5).trans rfl; have hfzR_5 := bFz BK389.out 5))
              refine bodyPost_ret (results_ct rfl _ _ gb390 24 #[.int .i64 1, .int .i64 0, .int .i64 t400, .int .i64 t402, .string (⟨#[]⟩ : ByteArray), .slice none 0 0] (0, 0) _ rfl (by (with_reducible repeat (first | refine bDN ?_ _ | refine bDr ?_ | refine bAl ?_ _)); refine blk_put (cs := #[.int .i64 1, .int .i64 0, .int .i64 t400, .int .i64 t402, .string (⟨#[]⟩ : ByteArray), .slice none 0 0]) ?_ 5 _ rfl; (with_reducible repeat (first | refine bDN ?_ _ | refine bDr ?_ | refine bAl ?_ _)); refine blk_put (cs := #[.int .i64 1, .int .i64 0, .int .i64 t400, .int .i64 t402, .string x391004_1, .slice none 0 0]) ?_ 4 _ rfl; (with_reducible repeat (first | refine bDN ?_ _ | refine bDr ?_ | refine bAl ?_ _)); refine blk_put (cs := #[.int .i64 1, .int .i64 0, .int .i64 t400, .int .i64 x391003_1, .string x391004_1, .slice none 0 0]) ?_ 3 _ rfl; (with_reducible repeat (first | refine bDN ?_ _ | refine bDr ?_ | refine bAl ?_ _)); refine blk_put (cs := #[.int .i64 1, .int .i64 0, .int .i64 x391002_1, .int .i64 x391003_1, .string x391004_1, .slice none 0 0]) ?_ 2 _ rfl; (with_reducible repeat (first | refine bDN ?_ _ | refine bDr ?_ | refine bAl ?_ _)); refine blk_put (cs := #[.int .i64 1, .int .i64 x391001_1, .int .i64 x391002_1, .int .i64 x391003_1, .string x391004_1, .slice none 0 0]) ?_ 1 _ rfl; (with_reducible repeat (first | refine bDN ?_ _ | refine bDr ?_ | refine bAl ?_ _)); refine blk_put (cs := #[.int .i64 x391000_1, .int .i64 x391001_1, .int .i64 x391002_1, .int .i64 x391003_1, .string x391004_1, .slice none 0 0]) ?_ 0 _ rfl; (with_reducible repeat (first | refine bDN ?_ _ | refine bDr ?_ | refine bAl ?_ _)); exact BK390.out) Try.underlying24 rfl (by kernel_rfl)) rfl ?_
              exact ⟨_, by first | rfl | (simp [errW_none, errW_some] <;> rfl) | (simp [*, errW_none, errW_some] <;> rfl), Kd.V_mono (Kd.R_V (Kd.R_nil k24 24 _ w.heap.size (fun k_ => w.heap.size ≤ k_))) (fun k_ hk => by first | exact ⟨(.inr (hk.1)), hk.2⟩ | exact (.inr (hk))), by repeat (first | (with_reducible first | exact HB.out | apply wAl | apply pDN | apply wDr | refine wSt ?_ GE389.out | refine wSt ?_ GE390.out) | exact HB.out)⟩
            · rw [if_neg c23] at H
              have c23b0 : (t403 == 0) = false := beq_eq_false_iff_ne.mpr c23
              have c23b1 : (t403 != 0) = true := bne_iff_ne.mpr c23
              simp only [Option.some.injEq, Prod.mk.injEq] at H
              obtain ⟨rfl, rfl, rfl, rfl, rfl, rfl, rfl⟩ := H
              have hnb29 := NB389_390.out
              have hnc29 := NB390_389.out
              have hcz30_0 : wr.cell? ⟨gb389, 0, none⟩ = some (.int .i64 a0_0) := (bCl BK389.out 0).trans rfl
              have hcz30_1 : wr.cell? ⟨gb389, 1, none⟩ = some (.int .i64 a0_1) := (bCl BK389.out 1).trans rfl
              have hcz30_2 : wr.cell? ⟨gb389, 2, none⟩ = some (.int .i64 a0_2) := (bCl BK389.out 2).trans rfl
              have hcz30_3 : wr.cell? ⟨gb389, 3, none⟩ = some (.int .i64 a0_3) := (bCl BK389.out 3).trans rfl
              have hcz30_4 : wr.cell? ⟨gb389, 4, none⟩ = some (.string a0_4) := (bCl BK389.out 4).trans rfl
              have hcz30_5 : wr.cell? ⟨gb389, 5, none⟩ = some (.slice A0_5 l0_5.length c0_5) := (bCl BK389.out 5).trans rfl
              have hfz30_0 := bFz BK389.out 0
              have hfz30_1 := bFz BK389.out 1
              have hfz30_2 := bFz BK389.out 2
              have hfz30_3 := bFz BK389.out 3
              have hfz30_4 := bFz BK389.out 4
              have hfz30_5 := bFz BK389.out 5
              obtain ⟨Ao31, co31, eo31⟩ := Kd.R_slice HO_4.out
              subst eo31
              go_wp2_with (first | ((with_reducible refine gate_callee (f := 48) rfl ?_); refine goesL_ (some 52) rfl rfl Try.func48 (by kernel_rfl) rfl #[.int .i64 a0_1, .slice Ao31 x4_1.length co31] rfl (by (try simp only [List.map_toArray, List.map_cons, List.map_nil]); first | done | rfl | (simp only [List.length_drop, List.length_take]; rfl)) ?_; (with_reducible refine (r05Result.calls k1 a0_1 _ _ x4_1 t400 t401 _ ?side1 ?side2 A20.out).mono ?_); (case side1 => repeat (first | exact (Kd.R_reads' HO_4.out).2.2 | (with_reducible refine Kd.C_alloc ?_ _) | (with_reducible refine Kd.C_drewN ?_ _) | (with_reducible refine Kd.C_drew ?_))); (case side2 => exact (Kd.R_reads' HO_4.out).2.1); rintro e w' ⟨rfl, ⟨nd, rfl⟩⟩; refine ⟨_, rfl, ?_⟩; (try (rw [drewN_self wr]; generalize hq_ : World.drewN wr _ = wr; have n0_ : Asd (Kd.V k24 24 wr w.heap.size (fun k_ => (P0_5_ k_ ∨ w.heap.size ≤ k_) ∧ some k_ ≠ (.slice Ao31 x4_1.length co31 : Value).ownBlock ∧ some k_ ≠ (u5 : Value).ownBlock ∧ k_ ≠ gb389 ∧ k_ ≠ gb390) (.slice A0_5 l0_5.length c0_5) l0_5) := ⟨by rw [← hq_]; exact (by (with_reducible repeat (first | apply Kd.V_alloc | apply Kd.V_drewN | apply Kd.V_drew)); exact HO_390005.out)⟩; have n1_ : Asd (Kd.R (Kd.int .i64) 3 wr w.heap.size (fun k_ => (w.heap.size ≤ k_) ∧ some k_ ≠ (u5 : Value).ownBlock) (.slice Ao31 x4_1.length co31) x4_1) := ⟨by rw [← hq_]; exact (by (with_reducible repeat (first | apply Kd.R_alloc | apply Kd.R_drewN | apply Kd.R_drew)); exact HO_4.out)⟩; have n2_ : Asd (Kd.R (Kd.int .i64) 3 wr w.heap.size (fun k_ => (w.heap.size ≤ k_) ∧ some k_ ≠ (.slice Ao31 x4_1.length co31 : Value).ownBlock) u5 x5_1) := ⟨by rw [← hq_]; exact (by (with_reducible repeat (first | apply Kd.R_alloc | apply Kd.R_drewN | apply Kd.R_drew)); exact HO_5.out)⟩; have n3_ : Asd (wr.heap[gb389]? = some (.cells #[.int .i64 a0_0, .int .i64 a0_1, .int .i64 a0_2, .int .i64 a0_3, .string a0_4, .slice A0_5 l0_5.length c0_5] 24 (0, 0))) := ⟨by rw [← hq_]; exact (by (with_reducible repeat (first | refine bDN ?_ _ | refine bDr ?_ | refine bAl ?_ _)); exact BK389.out)⟩; have n4_ : Asd (wr.heap[gb390]? = some (.cells #[.int .i64 x391000_1, .int .i64 x391001_1, .int .i64 x391002_1, .int .i64 x391003_1, .string x391004_1, .slice none 0 0] 24 (0, 0))) := ⟨by rw [← hq_]; exact (by (with_reducible repeat (first | refine bDN ?_ _ | refine bDr ?_ | refine bAl ?_ _)); exact BK390.out)⟩; have n5_ : Asd (Below w.heap.size w wr) := ⟨by rw [← hq_]; exact (by repeat (first | (with_reducible first | exact HB.out | apply wAl | apply pDN | apply wDr | refine wSt ?_ GE389.out | refine wSt ?_ GE390.out) | exact HB.out))⟩; clear HO_390005 HO_4 HO_5 BK389 BK390 HB hq_; have HO_390005 := n0_; have HO_4 := n1_; have HO_5 := n2_; have BK389 := n3_; have BK390 := n4_; have HB := n5_; clear n0_ n1_ n2_ n3_ n4_ n5_)); obtain ⟨Ao32, co32, eo32⟩ := Kd.R_slice HO_5.out; subst eo32; have hczR_0 : wr.cell? ⟨gb389, 0, none⟩ = some (.int .i64 a0_0) := (bCl BK389.out 0).trans rfl; have hfzR_0 := bFz BK389.out 0; have hczR_1 : wr.cell? ⟨gb389, 1, none⟩ = some (.int .i64 a0_1) := (bCl BK389.out 1).trans rfl; have hfzR_1 := bFz BK389.out 1; have hczR_2 : wr.cell? ⟨gb389, 2, none⟩ = some (.int .i64 a0_2) := (bCl BK389.out 2).trans rfl; have hfzR_2 := bFz BK389.out 2; have hczR_3 : wr.cell? ⟨gb389, 3, none⟩ = some (.int .i64 a0_3) := (bCl BK389.out 3).trans rfl; have hfzR_3 := bFz BK389.out 3; have hczR_4 : wr.cell? ⟨gb389, 4, none⟩ = some (.string a0_4) := (bCl BK389.out 4).trans rfl; have hfzR_4 := bFz BK389.out 4; have hczR_5 : wr.cell? ⟨gb389, 5, none⟩ = some (.slice A0_5 l0_5.length c0_5) := (bCl BK389.out 5).trans rfl; have hfzR_5 := bFz BK389.out 5) | ((with_reducible refine gate_callee (f := 49) rfl ?_); refine goesL_ (some 59) rfl rfl Try.func49 (by kernel_rfl) rfl #[.int .i64 a0_1, .slice Ao32 x5_1.length co32] rfl (by (try simp only [List.map_toArray, List.map_cons, List.map_nil]); first | done | rfl | (simp only [List.length_drop, List.length_take]; rfl)) ?_; (with_reducible refine (r05Apply.calls k1 a0_1 _ _ x5_1 t402 t403 _ ?side1 ?side2 A21.out).mono ?_); (case side1 => repeat (first | exact (Kd.R_reads' HO_5.out).2.2 | (with_reducible refine Kd.C_alloc ?_ _) | (with_reducible refine Kd.C_drewN ?_ _) | (with_reducible refine Kd.C_drew ?_))); (case side2 => exact (Kd.R_reads' HO_5.out).2.1); rintro e w' ⟨rfl, ⟨nd, rfl⟩⟩; refine ⟨_, rfl, ?_⟩; (try (rw [drewN_self wr]; generalize hq_ : World.drewN wr _ = wr; have n0_ : Asd (Kd.V k24 24 wr w.heap.size (fun k_ => (P0_5_ k_ ∨ w.heap.size ≤ k_) ∧ some k_ ≠ (.slice Ao31 x4_1.length co31 : Value).ownBlock ∧ some k_ ≠ (.slice Ao32 x5_1.length co32 : Value).ownBlock ∧ k_ ≠ gb389 ∧ k_ ≠ gb390) (.slice A0_5 l0_5.length c0_5) l0_5) := ⟨by rw [← hq_]; exact (by (with_reducible repeat (first | apply Kd.V_alloc | apply Kd.V_drewN | apply Kd.V_drew)); exact HO_390005.out)⟩; have n1_ : Asd (Kd.R (Kd.int .i64) 3 wr w.heap.size (fun k_ => (w.heap.size ≤ k_) ∧ some k_ ≠ (.slice Ao32 x5_1.length co32 : Value).ownBlock) (.slice Ao31 x4_1.length co31) x4_1) := ⟨by rw [← hq_]; exact (by (with_reducible repeat (first | apply Kd.R_alloc | apply Kd.R_drewN | apply Kd.R_drew)); exact HO_4.out)⟩; have n2_ : Asd (Kd.R (Kd.int .i64) 3 wr w.heap.size (fun k_ => (w.heap.size ≤ k_) ∧ some k_ ≠ (.slice Ao31 x4_1.length co31 : Value).ownBlock) (.slice Ao32 x5_1.length co32) x5_1) := ⟨by rw [← hq_]; exact (by (with_reducible repeat (first | apply Kd.R_alloc | apply Kd.R_drewN | apply Kd.R_drew)); exact HO_5.out)⟩; have n3_ : Asd (wr.heap[gb389]? = some (.cells #[.int .i64 a0_0, .int .i64 a0_1, .int .i64 a0_2, .int .i64 a0_3, .string a0_4, .slice A0_5 l0_5.length c0_5] 24 (0, 0))) := ⟨by rw [← hq_]; exact (by (with_reducible repeat (first | refine bDN ?_ _ | refine bDr ?_ | refine bAl ?_ _)); exact BK389.out)⟩; have n4_ : Asd (wr.heap[gb390]? = some (.cells #[.int .i64 x391000_1, .int .i64 x391001_1, .int .i64 x391002_1, .int .i64 x391003_1, .string x391004_1, .slice none 0 0] 24 (0, 0))) := ⟨by rw [← hq_]; exact (by (with_reducible repeat (first | refine bDN ?_ _ | refine bDr ?_ | refine bAl ?_ _)); exact BK390.out)⟩; have n5_ : Asd (Below w.heap.size w wr) := ⟨by rw [← hq_]; exact (by repeat (first | (with_reducible first | exact HB.out | apply wAl | apply pDN | apply wDr | refine wSt ?_ GE389.out | refine wSt ?_ GE390.out) | exact HB.out))⟩; clear HO_390005 HO_4 HO_5 BK389 BK390 HB hq_; have HO_390005 := n0_; have HO_4 := n1_; have HO_5 := n2_; have BK389 := n3_; have BK390 := n4_; have HB := n5_; clear n0_ n1_ n2_ n3_ n4_ n5_)); have hcz33_0 : wr.cell? ⟨gb390, 0, none⟩ = some (.int .i64 x391000_1) := (bCl BK390.out 0).trans rfl; have hcz33_1 : wr.cell? ⟨gb390, 1, none⟩ = some (.int .i64 x391001_1) := (bCl BK390.out 1).trans rfl; have hcz33_2 : wr.cell? ⟨gb390, 2, none⟩ = some (.int .i64 x391002_1) := (bCl BK390.out 2).trans rfl; have hcz33_3 : wr.cell? ⟨gb390, 3, none⟩ = some (.int .i64 x391003_1) := (bCl BK390.out 3).trans rfl; have hcz33_4 : wr.cell? ⟨gb390, 4, none⟩ = some (.string x391004_1) := (bCl BK390.out 4).trans rfl; have hcz33_5 : wr.cell? ⟨gb390, 5, none⟩ = some (.slice none 0 0) := (bCl BK390.out 5).trans rfl; have hfz33_0 := bFz BK390.out 0; have hfz33_1 := bFz BK390.out 1; have hfz33_2 := bFz BK390.out 2; have hfz33_3 := bFz BK390.out 3; have hfz33_4 := bFz BK390.out 4; have hfz33_5 := bFz BK390.out 5; have hczR_0 : wr.cell? ⟨gb389, 0, none⟩ = some (.int .i64 a0_0) := (bCl BK389.out 0).trans rfl; have hfzR_0 := bFz BK389.out 0; have hczR_1 : wr.cell? ⟨gb389, 1, none⟩ = some (.int .i64 a0_1) := (bCl BK389.out 1).trans rfl; have hfzR_1 := bFz BK389.out 1; have hczR_2 : wr.cell? ⟨gb389, 2, none⟩ = some (.int .i64 a0_2) := (bCl BK389.out 2).trans rfl; have hfzR_2 := bFz BK389.out 2; have hczR_3 : wr.cell? ⟨gb389, 3, none⟩ = some (.int .i64 a0_3) := (bCl BK389.out 3).trans rfl; have hfzR_3 := bFz BK389.out 3; have hczR_4 : wr.cell? ⟨gb389, 4, none⟩ = some (.string a0_4) := (bCl BK389.out 4).trans rfl; have hfzR_4 := bFz BK389.out 4; have hczR_5 : wr.cell? ⟨gb389, 5, none⟩ = some (.slice A0_5 l0_5.length c0_5) := (bCl BK389.out 5).trans rfl; have hfzR_5 := bFz BK389.out 5))
              refine bodyPost_ret (results_ct rfl _ _ gb390 24 #[.int .i64 a0_0, .int .i64 a0_1, .int .i64 a0_2, .int .i64 a0_3, .string a0_4, .slice A0_5 l0_5.length c0_5] (0, 0) _ rfl (by (with_reducible repeat (first | refine bDN ?_ _ | refine bDr ?_ | refine bAl ?_ _)); refine blk_put (cs := #[.int .i64 a0_0, .int .i64 a0_1, .int .i64 a0_2, .int .i64 a0_3, .string a0_4, .slice none 0 0]) ?_ 5 _ rfl; (with_reducible repeat (first | refine bDN ?_ _ | refine bDr ?_ | refine bAl ?_ _)); refine blk_put (cs := #[.int .i64 a0_0, .int .i64 a0_1, .int .i64 a0_2, .int .i64 a0_3, .string x391004_1, .slice none 0 0]) ?_ 4 _ rfl; (with_reducible repeat (first | refine bDN ?_ _ | refine bDr ?_ | refine bAl ?_ _)); refine blk_put (cs := #[.int .i64 a0_0, .int .i64 a0_1, .int .i64 a0_2, .int .i64 x391003_1, .string x391004_1, .slice none 0 0]) ?_ 3 _ rfl; (with_reducible repeat (first | refine bDN ?_ _ | refine bDr ?_ | refine bAl ?_ _)); refine blk_put (cs := #[.int .i64 a0_0, .int .i64 a0_1, .int .i64 x391002_1, .int .i64 x391003_1, .string x391004_1, .slice none 0 0]) ?_ 2 _ rfl; (with_reducible repeat (first | refine bDN ?_ _ | refine bDr ?_ | refine bAl ?_ _)); refine blk_put (cs := #[.int .i64 a0_0, .int .i64 x391001_1, .int .i64 x391002_1, .int .i64 x391003_1, .string x391004_1, .slice none 0 0]) ?_ 1 _ rfl; (with_reducible repeat (first | refine bDN ?_ _ | refine bDr ?_ | refine bAl ?_ _)); refine blk_put (cs := #[.int .i64 x391000_1, .int .i64 x391001_1, .int .i64 x391002_1, .int .i64 x391003_1, .string x391004_1, .slice none 0 0]) ?_ 0 _ rfl; (with_reducible repeat (first | refine bDN ?_ _ | refine bDr ?_ | refine bAl ?_ _)); exact BK390.out) Try.underlying24 rfl (by kernel_rfl)) rfl ?_
              exact ⟨_, by first | rfl | (simp [errW_none, errW_some] <;> rfl) | (simp [*, errW_none, errW_some] <;> rfl), by (with_reducible repeat (first | apply Kd.V_alloc | apply Kd.V_drewN | apply Kd.V_drew)); exact Kd.V_mono (Kd.V_far (p := ⟨gb390, 5, none⟩) (Kd.V_far (p := ⟨gb390, 4, none⟩) (Kd.V_far (p := ⟨gb390, 3, none⟩) (Kd.V_far (p := ⟨gb390, 2, none⟩) (Kd.V_far (p := ⟨gb390, 1, none⟩) (Kd.V_far (p := ⟨gb390, 0, none⟩) (Kd.V_mono HO_390005.out (fun k_ hk => (⟨hk, hk.2.2.2.2⟩ : _ ∧ k_ ≠ gb390))) (fun _ hk => hk.2) (.int .i64 a0_0)) (fun _ hk => hk.2) (.int .i64 a0_1)) (fun _ hk => hk.2) (.int .i64 a0_2)) (fun _ hk => hk.2) (.int .i64 a0_3)) (fun _ hk => hk.2) (.string a0_4)) (fun _ hk => hk.2) (.slice A0_5 l0_5.length c0_5)) (fun _ hk => hk.1.1), by repeat (first | (with_reducible first | exact HB.out | apply wAl | apply pDN | apply wDr | refine wSt ?_ GE389.out | refine wSt ?_ GE390.out) | exact HB.out)⟩
          · rw [if_neg c22] at H
            have c22b0 : (t401 == 0) = false := beq_eq_false_iff_ne.mpr c22
            have c22b1 : (t401 != 0) = true := bne_iff_ne.mpr c22
            simp only [Option.some.injEq, Prod.mk.injEq] at H
            obtain ⟨rfl, rfl, rfl, rfl, rfl, rfl, rfl⟩ := H
            have hnb34 := NB389_390.out
            have hnc34 := NB390_389.out
            have hcz35_0 : wr.cell? ⟨gb389, 0, none⟩ = some (.int .i64 a0_0) := (bCl BK389.out 0).trans rfl
            have hcz35_1 : wr.cell? ⟨gb389, 1, none⟩ = some (.int .i64 a0_1) := (bCl BK389.out 1).trans rfl
            have hcz35_2 : wr.cell? ⟨gb389, 2, none⟩ = some (.int .i64 a0_2) := (bCl BK389.out 2).trans rfl
            have hcz35_3 : wr.cell? ⟨gb389, 3, none⟩ = some (.int .i64 a0_3) := (bCl BK389.out 3).trans rfl
            have hcz35_4 : wr.cell? ⟨gb389, 4, none⟩ = some (.string a0_4) := (bCl BK389.out 4).trans rfl
            have hcz35_5 : wr.cell? ⟨gb389, 5, none⟩ = some (.slice A0_5 l0_5.length c0_5) := (bCl BK389.out 5).trans rfl
            have hfz35_0 := bFz BK389.out 0
            have hfz35_1 := bFz BK389.out 1
            have hfz35_2 := bFz BK389.out 2
            have hfz35_3 := bFz BK389.out 3
            have hfz35_4 := bFz BK389.out 4
            have hfz35_5 := bFz BK389.out 5
            obtain ⟨Ao36, co36, eo36⟩ := Kd.R_slice HO_4.out
            subst eo36
            go_wp2_with (first | ((with_reducible refine gate_callee (f := 48) rfl ?_); refine goesL_ (some 52) rfl rfl Try.func48 (by kernel_rfl) rfl #[.int .i64 a0_1, .slice Ao36 x4_1.length co36] rfl (by (try simp only [List.map_toArray, List.map_cons, List.map_nil]); first | done | rfl | (simp only [List.length_drop, List.length_take]; rfl)) ?_; (with_reducible refine (r05Result.calls k1 a0_1 _ _ x4_1 t400 t401 _ ?side1 ?side2 A20.out).mono ?_); (case side1 => repeat (first | exact (Kd.R_reads' HO_4.out).2.2 | (with_reducible refine Kd.C_alloc ?_ _) | (with_reducible refine Kd.C_drewN ?_ _) | (with_reducible refine Kd.C_drew ?_))); (case side2 => exact (Kd.R_reads' HO_4.out).2.1); rintro e w' ⟨rfl, ⟨nd, rfl⟩⟩; refine ⟨_, rfl, ?_⟩; (try (rw [drewN_self wr]; generalize hq_ : World.drewN wr _ = wr; have n0_ : Asd (Kd.V k24 24 wr w.heap.size (fun k_ => (P0_5_ k_ ∨ w.heap.size ≤ k_) ∧ some k_ ≠ (.slice Ao36 x4_1.length co36 : Value).ownBlock ∧ some k_ ≠ (u5 : Value).ownBlock ∧ k_ ≠ gb389 ∧ k_ ≠ gb390) (.slice A0_5 l0_5.length c0_5) l0_5) := ⟨by rw [← hq_]; exact (by (with_reducible repeat (first | apply Kd.V_alloc | apply Kd.V_drewN | apply Kd.V_drew)); exact HO_390005.out)⟩; have n1_ : Asd (Kd.R (Kd.int .i64) 3 wr w.heap.size (fun k_ => (w.heap.size ≤ k_) ∧ some k_ ≠ (u5 : Value).ownBlock) (.slice Ao36 x4_1.length co36) x4_1) := ⟨by rw [← hq_]; exact (by (with_reducible repeat (first | apply Kd.R_alloc | apply Kd.R_drewN | apply Kd.R_drew)); exact HO_4.out)⟩; have n2_ : Asd (Kd.R (Kd.int .i64) 3 wr w.heap.size (fun k_ => (w.heap.size ≤ k_) ∧ some k_ ≠ (.slice Ao36 x4_1.length co36 : Value).ownBlock) u5 x5_1) := ⟨by rw [← hq_]; exact (by (with_reducible repeat (first | apply Kd.R_alloc | apply Kd.R_drewN | apply Kd.R_drew)); exact HO_5.out)⟩; have n3_ : Asd (wr.heap[gb389]? = some (.cells #[.int .i64 a0_0, .int .i64 a0_1, .int .i64 a0_2, .int .i64 a0_3, .string a0_4, .slice A0_5 l0_5.length c0_5] 24 (0, 0))) := ⟨by rw [← hq_]; exact (by (with_reducible repeat (first | refine bDN ?_ _ | refine bDr ?_ | refine bAl ?_ _)); exact BK389.out)⟩; have n4_ : Asd (wr.heap[gb390]? = some (.cells #[.int .i64 x391000_1, .int .i64 x391001_1, .int .i64 x391002_1, .int .i64 x391003_1, .string x391004_1, .slice none 0 0] 24 (0, 0))) := ⟨by rw [← hq_]; exact (by (with_reducible repeat (first | refine bDN ?_ _ | refine bDr ?_ | refine bAl ?_ _)); exact BK390.out)⟩; have n5_ : Asd (Below w.heap.size w wr) := ⟨by rw [← hq_]; exact (by repeat (first | (with_reducible first | exact HB.out | apply wAl | apply pDN | apply wDr | refine wSt ?_ GE389.out | refine wSt ?_ GE390.out) | exact HB.out))⟩; clear HO_390005 HO_4 HO_5 BK389 BK390 HB hq_; have HO_390005 := n0_; have HO_4 := n1_; have HO_5 := n2_; have BK389 := n3_; have BK390 := n4_; have HB := n5_; clear n0_ n1_ n2_ n3_ n4_ n5_)); obtain ⟨Ao37, co37, eo37⟩ := Kd.R_slice HO_5.out; subst eo37; have hczR_0 : wr.cell? ⟨gb389, 0, none⟩ = some (.int .i64 a0_0) := (bCl BK389.out 0).trans rfl; have hfzR_0 := bFz BK389.out 0; have hczR_1 : wr.cell? ⟨gb389, 1, none⟩ = some (.int .i64 a0_1) := (bCl BK389.out 1).trans rfl; have hfzR_1 := bFz BK389.out 1; have hczR_2 : wr.cell? ⟨gb389, 2, none⟩ = some (.int .i64 a0_2) := (bCl BK389.out 2).trans rfl; have hfzR_2 := bFz BK389.out 2; have hczR_3 : wr.cell? ⟨gb389, 3, none⟩ = some (.int .i64 a0_3) := (bCl BK389.out 3).trans rfl; have hfzR_3 := bFz BK389.out 3; have hczR_4 : wr.cell? ⟨gb389, 4, none⟩ = some (.string a0_4) := (bCl BK389.out 4).trans rfl; have hfzR_4 := bFz BK389.out 4; have hczR_5 : wr.cell? ⟨gb389, 5, none⟩ = some (.slice A0_5 l0_5.length c0_5) := (bCl BK389.out 5).trans rfl; have hfzR_5 := bFz BK389.out 5) | ((with_reducible refine gate_callee (f := 49) rfl ?_); refine goesL_ (some 59) rfl rfl Try.func49 (by kernel_rfl) rfl #[.int .i64 a0_1, .slice Ao37 x5_1.length co37] rfl (by (try simp only [List.map_toArray, List.map_cons, List.map_nil]); first | done | rfl | (simp only [List.length_drop, List.length_take]; rfl)) ?_; (with_reducible refine (r05Apply.calls k1 a0_1 _ _ x5_1 t402 t403 _ ?side1 ?side2 A21.out).mono ?_); (case side1 => repeat (first | exact (Kd.R_reads' HO_5.out).2.2 | (with_reducible refine Kd.C_alloc ?_ _) | (with_reducible refine Kd.C_drewN ?_ _) | (with_reducible refine Kd.C_drew ?_))); (case side2 => exact (Kd.R_reads' HO_5.out).2.1); rintro e w' ⟨rfl, ⟨nd, rfl⟩⟩; refine ⟨_, rfl, ?_⟩; (try (rw [drewN_self wr]; generalize hq_ : World.drewN wr _ = wr; have n0_ : Asd (Kd.V k24 24 wr w.heap.size (fun k_ => (P0_5_ k_ ∨ w.heap.size ≤ k_) ∧ some k_ ≠ (.slice Ao36 x4_1.length co36 : Value).ownBlock ∧ some k_ ≠ (.slice Ao37 x5_1.length co37 : Value).ownBlock ∧ k_ ≠ gb389 ∧ k_ ≠ gb390) (.slice A0_5 l0_5.length c0_5) l0_5) := ⟨by rw [← hq_]; exact (by (with_reducible repeat (first | apply Kd.V_alloc | apply Kd.V_drewN | apply Kd.V_drew)); exact HO_390005.out)⟩; have n1_ : Asd (Kd.R (Kd.int .i64) 3 wr w.heap.size (fun k_ => (w.heap.size ≤ k_) ∧ some k_ ≠ (.slice Ao37 x5_1.length co37 : Value).ownBlock) (.slice Ao36 x4_1.length co36) x4_1) := ⟨by rw [← hq_]; exact (by (with_reducible repeat (first | apply Kd.R_alloc | apply Kd.R_drewN | apply Kd.R_drew)); exact HO_4.out)⟩; have n2_ : Asd (Kd.R (Kd.int .i64) 3 wr w.heap.size (fun k_ => (w.heap.size ≤ k_) ∧ some k_ ≠ (.slice Ao36 x4_1.length co36 : Value).ownBlock) (.slice Ao37 x5_1.length co37) x5_1) := ⟨by rw [← hq_]; exact (by (with_reducible repeat (first | apply Kd.R_alloc | apply Kd.R_drewN | apply Kd.R_drew)); exact HO_5.out)⟩; have n3_ : Asd (wr.heap[gb389]? = some (.cells #[.int .i64 a0_0, .int .i64 a0_1, .int .i64 a0_2, .int .i64 a0_3, .string a0_4, .slice A0_5 l0_5.length c0_5] 24 (0, 0))) := ⟨by rw [← hq_]; exact (by (with_reducible repeat (first | refine bDN ?_ _ | refine bDr ?_ | refine bAl ?_ _)); exact BK389.out)⟩; have n4_ : Asd (wr.heap[gb390]? = some (.cells #[.int .i64 x391000_1, .int .i64 x391001_1, .int .i64 x391002_1, .int .i64 x391003_1, .string x391004_1, .slice none 0 0] 24 (0, 0))) := ⟨by rw [← hq_]; exact (by (with_reducible repeat (first | refine bDN ?_ _ | refine bDr ?_ | refine bAl ?_ _)); exact BK390.out)⟩; have n5_ : Asd (Below w.heap.size w wr) := ⟨by rw [← hq_]; exact (by repeat (first | (with_reducible first | exact HB.out | apply wAl | apply pDN | apply wDr | refine wSt ?_ GE389.out | refine wSt ?_ GE390.out) | exact HB.out))⟩; clear HO_390005 HO_4 HO_5 BK389 BK390 HB hq_; have HO_390005 := n0_; have HO_4 := n1_; have HO_5 := n2_; have BK389 := n3_; have BK390 := n4_; have HB := n5_; clear n0_ n1_ n2_ n3_ n4_ n5_)); have hcz38_0 : wr.cell? ⟨gb390, 0, none⟩ = some (.int .i64 x391000_1) := (bCl BK390.out 0).trans rfl; have hcz38_1 : wr.cell? ⟨gb390, 1, none⟩ = some (.int .i64 x391001_1) := (bCl BK390.out 1).trans rfl; have hcz38_2 : wr.cell? ⟨gb390, 2, none⟩ = some (.int .i64 x391002_1) := (bCl BK390.out 2).trans rfl; have hcz38_3 : wr.cell? ⟨gb390, 3, none⟩ = some (.int .i64 x391003_1) := (bCl BK390.out 3).trans rfl; have hcz38_4 : wr.cell? ⟨gb390, 4, none⟩ = some (.string x391004_1) := (bCl BK390.out 4).trans rfl; have hcz38_5 : wr.cell? ⟨gb390, 5, none⟩ = some (.slice none 0 0) := (bCl BK390.out 5).trans rfl; have hfz38_0 := bFz BK390.out 0; have hfz38_1 := bFz BK390.out 1; have hfz38_2 := bFz BK390.out 2; have hfz38_3 := bFz BK390.out 3; have hfz38_4 := bFz BK390.out 4; have hfz38_5 := bFz BK390.out 5; have hczR_0 : wr.cell? ⟨gb389, 0, none⟩ = some (.int .i64 a0_0) := (bCl BK389.out 0).trans rfl; have hfzR_0 := bFz BK389.out 0; have hczR_1 : wr.cell? ⟨gb389, 1, none⟩ = some (.int .i64 a0_1) := (bCl BK389.out 1).trans rfl; have hfzR_1 := bFz BK389.out 1; have hczR_2 : wr.cell? ⟨gb389, 2, none⟩ = some (.int .i64 a0_2) := (bCl BK389.out 2).trans rfl; have hfzR_2 := bFz BK389.out 2; have hczR_3 : wr.cell? ⟨gb389, 3, none⟩ = some (.int .i64 a0_3) := (bCl BK389.out 3).trans rfl; have hfzR_3 := bFz BK389.out 3; have hczR_4 : wr.cell? ⟨gb389, 4, none⟩ = some (.string a0_4) := (bCl BK389.out 4).trans rfl; have hfzR_4 := bFz BK389.out 4; have hczR_5 : wr.cell? ⟨gb389, 5, none⟩ = some (.slice A0_5 l0_5.length c0_5) := (bCl BK389.out 5).trans rfl; have hfzR_5 := bFz BK389.out 5))
            refine bodyPost_ret (results_ct rfl _ _ gb390 24 #[.int .i64 a0_0, .int .i64 a0_1, .int .i64 a0_2, .int .i64 a0_3, .string a0_4, .slice A0_5 l0_5.length c0_5] (0, 0) _ rfl (by (with_reducible repeat (first | refine bDN ?_ _ | refine bDr ?_ | refine bAl ?_ _)); refine blk_put (cs := #[.int .i64 a0_0, .int .i64 a0_1, .int .i64 a0_2, .int .i64 a0_3, .string a0_4, .slice none 0 0]) ?_ 5 _ rfl; (with_reducible repeat (first | refine bDN ?_ _ | refine bDr ?_ | refine bAl ?_ _)); refine blk_put (cs := #[.int .i64 a0_0, .int .i64 a0_1, .int .i64 a0_2, .int .i64 a0_3, .string x391004_1, .slice none 0 0]) ?_ 4 _ rfl; (with_reducible repeat (first | refine bDN ?_ _ | refine bDr ?_ | refine bAl ?_ _)); refine blk_put (cs := #[.int .i64 a0_0, .int .i64 a0_1, .int .i64 a0_2, .int .i64 x391003_1, .string x391004_1, .slice none 0 0]) ?_ 3 _ rfl; (with_reducible repeat (first | refine bDN ?_ _ | refine bDr ?_ | refine bAl ?_ _)); refine blk_put (cs := #[.int .i64 a0_0, .int .i64 a0_1, .int .i64 x391002_1, .int .i64 x391003_1, .string x391004_1, .slice none 0 0]) ?_ 2 _ rfl; (with_reducible repeat (first | refine bDN ?_ _ | refine bDr ?_ | refine bAl ?_ _)); refine blk_put (cs := #[.int .i64 a0_0, .int .i64 x391001_1, .int .i64 x391002_1, .int .i64 x391003_1, .string x391004_1, .slice none 0 0]) ?_ 1 _ rfl; (with_reducible repeat (first | refine bDN ?_ _ | refine bDr ?_ | refine bAl ?_ _)); refine blk_put (cs := #[.int .i64 x391000_1, .int .i64 x391001_1, .int .i64 x391002_1, .int .i64 x391003_1, .string x391004_1, .slice none 0 0]) ?_ 0 _ rfl; (with_reducible repeat (first | refine bDN ?_ _ | refine bDr ?_ | refine bAl ?_ _)); exact BK390.out) Try.underlying24 rfl (by kernel_rfl)) rfl ?_
            exact ⟨_, by first | rfl | (simp [errW_none, errW_some] <;> rfl) | (simp [*, errW_none, errW_some] <;> rfl), by (with_reducible repeat (first | apply Kd.V_alloc | apply Kd.V_drewN | apply Kd.V_drew)); exact Kd.V_mono (Kd.V_far (p := ⟨gb390, 5, none⟩) (Kd.V_far (p := ⟨gb390, 4, none⟩) (Kd.V_far (p := ⟨gb390, 3, none⟩) (Kd.V_far (p := ⟨gb390, 2, none⟩) (Kd.V_far (p := ⟨gb390, 1, none⟩) (Kd.V_far (p := ⟨gb390, 0, none⟩) (Kd.V_mono HO_390005.out (fun k_ hk => (⟨hk, hk.2.2.2.2⟩ : _ ∧ k_ ≠ gb390))) (fun _ hk => hk.2) (.int .i64 a0_0)) (fun _ hk => hk.2) (.int .i64 a0_1)) (fun _ hk => hk.2) (.int .i64 a0_2)) (fun _ hk => hk.2) (.int .i64 a0_3)) (fun _ hk => hk.2) (.string a0_4)) (fun _ hk => hk.2) (.slice A0_5 l0_5.length c0_5)) (fun _ hk => hk.1.1), by repeat (first | (with_reducible first | exact HB.out | apply wAl | apply pDN | apply wDr | refine wSt ?_ GE389.out | refine wSt ?_ GE390.out) | exact HB.out)⟩
  · exact absurd h3.out c2
end Go.Proofs.Ytgbpdfkobelbcaa.PSimpFolds
end
