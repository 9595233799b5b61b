/- A part of the proofs of two laws of folding: words, a reference machine, contracts. -/
import Derived.Test.YtgbpdfkobelbcaaSxJ
import Derived.Test.YtgbpdfkobelbcaaChecked
import Derived.Below
import Derived.KernelRfl
section
open Go Go.Ref Go.Proofs Go.RowKit Go.Proofs.Ytgbpdfkobelbcaa.PSimpFolds Go.Proofs.YtgbpdfkobelbcaaW.PrintWords Go.Proofs.YtgbpdfkobelbcaaW.PrintLast Go.Proofs.YtgbpdfkobelbcaaW.PrintMore
set_option linter.unusedVariables false
set_option linter.unusedSimpArgs false
namespace Go.Ref
theorem gives2_some {w w' : World} {ok : Nat → Prop} {r : S24} {x : Ending} (h : Gives2 w ok (some r) x w') : ∃ A c, x = .returned (.tuple #[.agg #[.int .i64 r.f0, .int .i64 r.f1, .int .i64 r.f2, .int .i64 r.f3, .string r.f4, .slice A r.f5.length c], .bool true]) ∧ Kd.FK k24 w' (fun k => ok k ∨ w.heap.size ≤ k) r (cel r A c) ∧ Below w.heap.size w w' := by
  obtain ⟨r', A, c, rfl, h1, h2, h3⟩ := h
  cases h2 r rfl
  exact ⟨A, c, rfl, h1, h3⟩
theorem gives2_none {w w' : World} {ok : Nat → Prop} {x : Ending} (h : Gives2 w ok none x w') : ∃ r A c, x = .returned (.tuple #[.agg #[.int .i64 r.f0, .int .i64 r.f1, .int .i64 r.f2, .int .i64 r.f3, .string r.f4, .slice A r.f5.length c], .bool false]) ∧ Kd.FK k24 w' (fun k => ok k ∨ w.heap.size ≤ k) r (cel r A c) ∧ Below w.heap.size w w' := by
  obtain ⟨r', A, c, rfl, h1, h2, h3⟩ := h
  exact ⟨r', A, c, rfl, h1, h3⟩
theorem other_call (hm : Try.prog.follows .mixedOrders = true) {W : World} {ok : Nat → Prop} {e : S24} {A : Option Addr} {c : Nat} (hf : Kd.FK k24 W ok e (cel e A c)) :
    Calls Try.prog 47 #[.agg #[.int .i64 e.f0, .int .i64 e.f1, .int .i64 e.f2, .int .i64 e.f3, .string e.f4, .slice A e.f5.length c], .slice (some ⟨W.heap.size, 0, none⟩) 9 9] (W.alloc (.cells #[.int .i64 3, .int .i64 1, .int .i64 1, .bool true, .int .i64 4, .int .i64 1, .int .i64 0, .bool true, .int .i64 5, .int .i64 1, .int .i64 0, .bool true, .int .i64 6, .int .i64 2, .int .i64 0, .bool true, .int .i64 8, .int .i64 2, .int .i64 1, .bool true, .int .i64 7, .int .i64 2, .int .i64 0, .bool false, .int .i64 9, .int .i64 2, .int .i64 1, .bool false, .int .i64 11, .int .i64 1, .int .i64 1, .bool true, .int .i64 12, .int .i64 1, .int .i64 0, .bool true] 81)) (Gives2 (W.alloc (.cells #[.int .i64 3, .int .i64 1, .int .i64 1, .bool true, .int .i64 4, .int .i64 1, .int .i64 0, .bool true, .int .i64 5, .int .i64 1, .int .i64 0, .bool true, .int .i64 6, .int .i64 2, .int .i64 0, .bool true, .int .i64 8, .int .i64 2, .int .i64 1, .bool true, .int .i64 7, .int .i64 2, .int .i64 0, .bool false, .int .i64 9, .int .i64 2, .int .i64 1, .bool false, .int .i64 11, .int .i64 1, .int .i64 1, .bool true, .int .i64 12, .int .i64 1, .int .i64 0, .bool true] 81)) ok (ofPair (biX e))) := by
  have hx : ExOk true (W.alloc (.cells #[.int .i64 3, .int .i64 1, .int .i64 1, .bool true, .int .i64 4, .int .i64 1, .int .i64 0, .bool true, .int .i64 5, .int .i64 1, .int .i64 0, .bool true, .int .i64 6, .int .i64 2, .int .i64 0, .bool true, .int .i64 8, .int .i64 2, .int .i64 1, .bool true, .int .i64 7, .int .i64 2, .int .i64 0, .bool false, .int .i64 9, .int .i64 2, .int .i64 1, .bool false, .int .i64 11, .int .i64 1, .int .i64 1, .bool true, .int .i64 12, .int .i64 1, .int .i64 0, .bool true] 81)) [.slice (some ⟨W.heap.size, 0, none⟩) 9 9] := ⟨_, 0, #[.int .i64 3, .int .i64 1, .int .i64 1, .bool true, .int .i64 4, .int .i64 1, .int .i64 0, .bool true, .int .i64 5, .int .i64 1, .int .i64 0, .bool true, .int .i64 6, .int .i64 2, .int .i64 0, .bool true, .int .i64 8, .int .i64 2, .int .i64 1, .bool true, .int .i64 7, .int .i64 2, .int .i64 0, .bool false, .int .i64 9, .int .i64 2, .int .i64 1, .bool false, .int .i64 11, .int .i64 1, .int .i64 1, .bool true, .int .i64 12, .int .i64 1, .int .i64 0, .bool true], 81, (0, 0), 9, rfl, Nat.le_refl _, blk_new W _, by decide, rfl⟩
  exact ((bi_rule hm bi47) _ ok e (cel e A c).toArray _ (Kd.FK_below hf (wAl (Below.refl _ _) _)) hx).mono fun _ _ hg => gives2_of hg
theorem elem0 {W : World} {ok : Nat → Prop} {e x : S24} {A : Option Addr} {c : Nat} (h : Kd.FK k24 W ok e (cel e A c)) (h5 : e.f5 = [x]) : ∃ ad A' c', A = some ad ∧ W.cell? ad = some (.int .i64 x.f0) ∧ W.cell? ⟨ad.block, ad.off + 1, none⟩ = some (.int .i64 x.f1) ∧ W.cell? ⟨ad.block, ad.off + 2, none⟩ = some (.int .i64 x.f2) ∧ W.cell? ⟨ad.block, ad.off + 3, none⟩ = some (.int .i64 x.f3) ∧ W.cell? ⟨ad.block, ad.off + 4, none⟩ = some (.string x.f4) ∧ W.cell? ⟨ad.block, ad.off + 5, none⟩ = some (.slice A' x.f5.length c') ∧ ok ad.block ∧ Kd.FK k24 W ok x (cel x A' c') := by
  obtain ⟨A5, c5, hcs, l5, g5⟩ := k24_openF h
  have hA : A5 = A := by
    have := congrArg (fun l => l[5]?) hcs
    simp only [cel] at this
    injection this with this
    injection this with this
    exact this.symm
  subst hA
  obtain ⟨ad, cs, rfl, _, hK, hcc, hin⟩ := Kd.F_get g5 z24 0 (by omega) (by rw [h5]; simp)
  obtain ⟨A', c', rfl, l', g'⟩ := k24_openF hK
  have hx : e.f5.getD (0 : Int).toNat z24 = x := by rw [h5]; rfl
  rw [hx] at hK hcc
  have h0 := hcc 0 _ rfl
  have h1 := hcc 1 _ rfl
  have h2 := hcc 2 _ rfl
  have h3 := hcc 3 _ rfl
  have h4 := hcc 4 _ rfl
  have h5' := hcc 5 _ rfl
  rw [add_field _ _ 1 (by omega)] at h1
  rw [add_field _ _ 2 (by omega)] at h2
  rw [add_field _ _ 3 (by omega)] at h3
  rw [add_field _ _ 4 (by omega)] at h4
  rw [add_field _ _ 5 (by omega)] at h5'
  have e0 : (0 : Int).toNat * k24.sz = 0 := rfl
  rw [e0] at h0 h1 h2 h3 h4 h5'
  rw [Nat.add_zero] at h0
  rw [Addr.add_zero'] at h0 h1 h2 h3 h4 h5'
  exact ⟨ad, A', c', rfl, h0, h1, h2, h3, h4, h5', hin (by decide), hK⟩
set_option maxHeartbeats 2000000 in
set_option maxRecDepth 100000 in
theorem once_1 {s44 s45 s46 : S24 → Option S24} {dom : S24 → Prop} (h44 : RuleO 44 s44 dom) (h45 : RuleO 45 s45 (fun _ => True)) (h46 : RuleO 46 s46 (fun _ => True)) {w : World} {ok : Nat → Prop} {e r : S24} {A : Option Addr} {c : Nat} (hd : dom e) (hf : Kd.FK k24 w ok e (cel e A c)) (h1 : s44 e = some r) :
    Calls Try.prog 21 #[.agg #[.int .i64 e.f0, .int .i64 e.f1, .int .i64 e.f2, .int .i64 e.f3, .string e.f4, .slice A e.f5.length c]] w (Gives2 w ok (some r)) := by
  have hu24 := Try.underlying24
  have S0 := Asd.mk (Hs.start hf)
  clear hf
  go_enter Try.func21, Try.ntmps21
  go_wp2_with (first
    | ((with_reducible refine gate_dst (N := 1) rfl ?_); (try (refine gate_guard (by rfl) ?_; dsimp only)); refine box_event ?hg (N := 1) ?hd (cs := #[.int .i64 e.f0, .int .i64 e.f1, .int .i64 e.f2, .int .i64 e.f3, .string e.f4, .slice A e.f5.length c]) (t := 24) ?hr ?_; (case hd => rfl); (case hg => rfl); (case hr => first | (go_simp; done) | (go_simp; rfl)); intro g1 hg wS1 hbox hb; have S1 := Asd.mk (S0.out.box hg hbox hb); clear hb hbox hg)
    | ((with_reducible refine gate_dst (N := 2) rfl ?_); (try (refine gate_guard (by rfl) ?_; dsimp only)); refine box_event ?hg (N := 2) ?hd (cs := #[.int .i64 0, .int .i64 0, .int .i64 0, .int .i64 0, .string (⟨#[]⟩ : ByteArray), .slice none 0 0]) (t := 24) ?hr ?_; (case hd => rfl); (case hg => rfl); (case hr => first | (go_simp; done) | (go_simp; rfl)); intro g2 hg wS2 hbox hb; have S2 := Asd.mk (S1.out.box hg hbox hb); clear hb hbox hg; obtain ⟨ap0, ap1, ap2, ap3, ap4, ap5, bp0, bp1, bp2, bp3, bp4, bp5⟩ := S2.out.cells6 1 rfl)
    | ((with_reducible refine gate_callee (f := 44) rfl ?_); refine goesL_ (some 12) rfl rfl Try.func44 (by kernel_rfl) rfl #[.agg #[.int .i64 e.f0, .int .i64 e.f1, .int .i64 e.f2, .int .i64 e.f3, .string e.f4, .slice A e.f5.length c]] rfl (by (try simp only [List.map_toArray, List.map_cons, List.map_nil]); first | done | rfl) ?_; refine (h44 _ _ e A c hd (S2.out.FK 0 rfl)).mono ?_; intro x wr hx; rw [h1] at hx; obtain ⟨A1, c1, rfl, hr, hb⟩ := gives2_some hx; refine ⟨_, rfl, ?_⟩; have T1 := Asd.mk (S2.out.call hb hr); clear hb hr hx)
    | ((with_reducible refine gate_dst (N := 4) rfl ?_); (try (refine gate_guard (by rfl) ?_; dsimp only)); refine box_event ?hg (N := 4) ?hd (cs := #[.int .i64 0, .int .i64 0, .int .i64 0, .int .i64 0, .string (⟨#[]⟩ : ByteArray), .slice none 0 0]) (t := 24) ?hr ?_; (case hd => rfl); (case hg => rfl); (case hr => first | (go_simp; done) | (go_simp; rfl)); intro g4 hg wU1 hbox hb; have U1 := Asd.mk (T1.out.box hg hbox hb); clear hb hbox hg; obtain ⟨au00, au01, au02, au03, au04, au05, bu00, bu01, bu02, bu03, bu04, bu05⟩ := U1.out.cells6 0 rfl; obtain ⟨av00, av01, av02, av03, av04, av05, bv00, bv01, bv02, bv03, bv04, bv05⟩ := U1.out.cells6 1 rfl; obtain ⟨aw00, aw01, aw02, aw03, aw04, aw05, bw00, bw01, bw02, bw03, bw04, bw05⟩ := U1.out.cells6 2 rfl; obtain ⟨n0a, n0b⟩ := U1.out.ne 0 1 rfl rfl (by decide); obtain ⟨n0c, n0d⟩ := U1.out.ne 0 2 rfl rfl (by decide)))
  have S6 := (U1.out.put6 0 rfl (v0 := .int .i64 r.f0) (v1 := .int .i64 r.f1) (v2 := .int .i64 r.f2) (v3 := .int .i64 r.f3) (v4 := .string r.f4) (v5 := .slice A1 r.f5.length c1)).put6 1 rfl (v0 := .int .i64 r.f0) (v1 := .int .i64 r.f1) (v2 := .int .i64 r.f2) (v3 := .int .i64 r.f3) (v4 := .string r.f4) (v5 := .slice A1 r.f5.length c1)
  refine bodyPost_ret (results_ct rfl _ _ g2 24 #[.int .i64 r.f0, .int .i64 r.f1, .int .i64 r.f2, .int .i64 r.f3, .string r.f4, .slice A1 r.f5.length c1] (0, 0) _ rfl (S6.blk 1 rfl) Try.underlying24 rfl (by kernel_rfl)) rfl ?_
  exact ⟨r, A1, c1, by first | rfl | simp [*], S6.out 0 rfl, fun r' hr => by cases hr; rfl, S6.below⟩
set_option maxHeartbeats 2000000 in
set_option maxRecDepth 100000 in
theorem once_2 {s44 s45 s46 : S24 → Option S24} {dom : S24 → Prop} (h44 : RuleO 44 s44 dom) (h45 : RuleO 45 s45 (fun _ => True)) (h46 : RuleO 46 s46 (fun _ => True)) {w : World} {ok : Nat → Prop} {e r : S24} {A : Option Addr} {c : Nat} (hd : dom e) (hf : Kd.FK k24 w ok e (cel e A c)) (h1 : s44 e = none) (h2 : s45 e = some r) :
    Calls Try.prog 21 #[.agg #[.int .i64 e.f0, .int .i64 e.f1, .int .i64 e.f2, .int .i64 e.f3, .string e.f4, .slice A e.f5.length c]] w (Gives2 w ok (some r)) := by
  have hu24 := Try.underlying24
  have S0 := Asd.mk (Hs.start hf)
  clear hf
  go_enter Try.func21, Try.ntmps21
  go_wp2_with (first
    | ((with_reducible refine gate_dst (N := 1) rfl ?_); (try (refine gate_guard (by rfl) ?_; dsimp only)); refine box_event ?hg (N := 1) ?hd (cs := #[.int .i64 e.f0, .int .i64 e.f1, .int .i64 e.f2, .int .i64 e.f3, .string e.f4, .slice A e.f5.length c]) (t := 24) ?hr ?_; (case hd => rfl); (case hg => rfl); (case hr => first | (go_simp; done) | (go_simp; rfl)); intro g1 hg wS1 hbox hb; have S1 := Asd.mk (S0.out.box hg hbox hb); clear hb hbox hg)
    | ((with_reducible refine gate_dst (N := 2) rfl ?_); (try (refine gate_guard (by rfl) ?_; dsimp only)); refine box_event ?hg (N := 2) ?hd (cs := #[.int .i64 0, .int .i64 0, .int .i64 0, .int .i64 0, .string (⟨#[]⟩ : ByteArray), .slice none 0 0]) (t := 24) ?hr ?_; (case hd => rfl); (case hg => rfl); (case hr => first | (go_simp; done) | (go_simp; rfl)); intro g2 hg wS2 hbox hb; have S2 := Asd.mk (S1.out.box hg hbox hb); clear hb hbox hg; obtain ⟨ap0, ap1, ap2, ap3, ap4, ap5, bp0, bp1, bp2, bp3, bp4, bp5⟩ := S2.out.cells6 1 rfl)
    | ((with_reducible refine gate_callee (f := 44) rfl ?_); refine goesL_ (some 12) rfl rfl Try.func44 (by kernel_rfl) rfl #[.agg #[.int .i64 e.f0, .int .i64 e.f1, .int .i64 e.f2, .int .i64 e.f3, .string e.f4, .slice A e.f5.length c]] rfl (by (try simp only [List.map_toArray, List.map_cons, List.map_nil]); first | done | rfl) ?_; refine (h44 _ _ e A c hd (S2.out.FK 0 rfl)).mono ?_; intro x wr hx; rw [h1] at hx; obtain ⟨q1, A1, c1, rfl, hr, hb⟩ := gives2_none hx; refine ⟨_, rfl, ?_⟩; have T1 := Asd.mk (S2.out.call hb hr); clear hb hr hx)
    | ((with_reducible refine gate_dst (N := 4) rfl ?_); (try (refine gate_guard (by rfl) ?_; dsimp only)); refine box_event ?hg (N := 4) ?hd (cs := #[.int .i64 0, .int .i64 0, .int .i64 0, .int .i64 0, .string (⟨#[]⟩ : ByteArray), .slice none 0 0]) (t := 24) ?hr ?_; (case hd => rfl); (case hg => rfl); (case hr => first | (go_simp; done) | (go_simp; rfl)); intro g4 hg wU1 hbox hb; have U1 := Asd.mk (T1.out.box hg hbox hb); clear hb hbox hg; obtain ⟨au00, au01, au02, au03, au04, au05, bu00, bu01, bu02, bu03, bu04, bu05⟩ := U1.out.cells6 0 rfl; obtain ⟨av00, av01, av02, av03, av04, av05, bv00, bv01, bv02, bv03, bv04, bv05⟩ := U1.out.cells6 1 rfl; obtain ⟨aw00, aw01, aw02, aw03, aw04, aw05, bw00, bw01, bw02, bw03, bw04, bw05⟩ := U1.out.cells6 2 rfl; obtain ⟨n0a, n0b⟩ := U1.out.ne 0 1 rfl rfl (by decide); obtain ⟨n0c, n0d⟩ := U1.out.ne 0 2 rfl rfl (by decide))
    | ((with_reducible refine gate_callee (f := 45) rfl ?_); refine goesL_ (some 19) rfl rfl Try.func45 (by kernel_rfl) rfl #[.agg #[.int .i64 e.f0, .int .i64 e.f1, .int .i64 e.f2, .int .i64 e.f3, .string e.f4, .slice A e.f5.length c]] rfl (by (try simp only [List.map_toArray, List.map_cons, List.map_nil]); first | done | rfl) ?_; have Q1 := Asd.mk (U1.out.put6 0 rfl (v0 := .int .i64 q1.f0) (v1 := .int .i64 q1.f1) (v2 := .int .i64 q1.f2) (v3 := .int .i64 q1.f3) (v4 := .string q1.f4) (v5 := .slice A1 q1.f5.length c1)); refine (h45 _ _ e A c trivial (Q1.out.FK 1 rfl)).mono ?_; intro x wr hx; rw [h2] at hx; obtain ⟨A2, c2, rfl, hr, hb⟩ := gives2_some hx; refine ⟨_, rfl, ?_⟩; have T2 := Asd.mk (Q1.out.call hb hr); clear hb hr hx)
    | ((with_reducible refine gate_dst (N := 6) rfl ?_); (try (refine gate_guard (by rfl) ?_; dsimp only)); refine box_event ?hg (N := 6) ?hd (cs := #[.int .i64 0, .int .i64 0, .int .i64 0, .int .i64 0, .string (⟨#[]⟩ : ByteArray), .slice none 0 0]) (t := 24) ?hr ?_; (case hd => rfl); (case hg => rfl); (case hr => first | (go_simp; done) | (go_simp; rfl)); intro g6 hg wU2 hbox hb; have U2 := Asd.mk (T2.out.box hg hbox hb); clear hb hbox hg; obtain ⟨au10, au11, au12, au13, au14, au15, bu10, bu11, bu12, bu13, bu14, bu15⟩ := U2.out.cells6 0 rfl; obtain ⟨av10, av11, av12, av13, av14, av15, bv10, bv11, bv12, bv13, bv14, bv15⟩ := U2.out.cells6 2 rfl; obtain ⟨aw10, aw11, aw12, aw13, aw14, aw15, bw10, bw11, bw12, bw13, bw14, bw15⟩ := U2.out.cells6 3 rfl; obtain ⟨n1a, n1b⟩ := U2.out.ne 0 2 rfl rfl (by decide); obtain ⟨n1c, n1d⟩ := U2.out.ne 0 3 rfl rfl (by decide)))
  have S6 := (U2.out.put6 0 rfl (v0 := .int .i64 r.f0) (v1 := .int .i64 r.f1) (v2 := .int .i64 r.f2) (v3 := .int .i64 r.f3) (v4 := .string r.f4) (v5 := .slice A2 r.f5.length c2)).put6 2 rfl (v0 := .int .i64 r.f0) (v1 := .int .i64 r.f1) (v2 := .int .i64 r.f2) (v3 := .int .i64 r.f3) (v4 := .string r.f4) (v5 := .slice A2 r.f5.length c2)
  refine bodyPost_ret (results_ct rfl _ _ g2 24 #[.int .i64 r.f0, .int .i64 r.f1, .int .i64 r.f2, .int .i64 r.f3, .string r.f4, .slice A2 r.f5.length c2] (0, 0) _ rfl (S6.blk 2 rfl) Try.underlying24 rfl (by kernel_rfl)) rfl ?_
  exact ⟨r, A2, c2, by first | rfl | simp [*], S6.out 0 rfl, fun r' hr => by cases hr; rfl, S6.below⟩
set_option maxHeartbeats 2000000 in
set_option maxRecDepth 100000 in
theorem once_3 {s44 s45 s46 : S24 → Option S24} {dom : S24 → Prop} (h44 : RuleO 44 s44 dom) (h45 : RuleO 45 s45 (fun _ => True)) (h46 : RuleO 46 s46 (fun _ => True)) {w : World} {ok : Nat → Prop} {e r : S24} {A : Option Addr} {c : Nat} (hd : dom e) (hf : Kd.FK k24 w ok e (cel e A c)) (h1 : s44 e = none) (h2 : s45 e = none) (h3 : s46 e = some r) :
    Calls Try.prog 21 #[.agg #[.int .i64 e.f0, .int .i64 e.f1, .int .i64 e.f2, .int .i64 e.f3, .string e.f4, .slice A e.f5.length c]] w (Gives2 w ok (some r)) := by
  have hu24 := Try.underlying24
  have S0 := Asd.mk (Hs.start hf)
  clear hf
  go_enter Try.func21, Try.ntmps21
  go_wp2_with (first
    | ((with_reducible refine gate_dst (N := 1) rfl ?_); (try (refine gate_guard (by rfl) ?_; dsimp only)); refine box_event ?hg (N := 1) ?hd (cs := #[.int .i64 e.f0, .int .i64 e.f1, .int .i64 e.f2, .int .i64 e.f3, .string e.f4, .slice A e.f5.length c]) (t := 24) ?hr ?_; (case hd => rfl); (case hg => rfl); (case hr => first | (go_simp; done) | (go_simp; rfl)); intro g1 hg wS1 hbox hb; have S1 := Asd.mk (S0.out.box hg hbox hb); clear hb hbox hg)
    | ((with_reducible refine gate_dst (N := 2) rfl ?_); (try (refine gate_guard (by rfl) ?_; dsimp only)); refine box_event ?hg (N := 2) ?hd (cs := #[.int .i64 0, .int .i64 0, .int .i64 0, .int .i64 0, .string (⟨#[]⟩ : ByteArray), .slice none 0 0]) (t := 24) ?hr ?_; (case hd => rfl); (case hg => rfl); (case hr => first | (go_simp; done) | (go_simp; rfl)); intro g2 hg wS2 hbox hb; have S2 := Asd.mk (S1.out.box hg hbox hb); clear hb hbox hg; obtain ⟨ap0, ap1, ap2, ap3, ap4, ap5, bp0, bp1, bp2, bp3, bp4, bp5⟩ := S2.out.cells6 1 rfl)
    | ((with_reducible refine gate_callee (f := 44) rfl ?_); refine goesL_ (some 12) rfl rfl Try.func44 (by kernel_rfl) rfl #[.agg #[.int .i64 e.f0, .int .i64 e.f1, .int .i64 e.f2, .int .i64 e.f3, .string e.f4, .slice A e.f5.length c]] rfl (by (try simp only [List.map_toArray, List.map_cons, List.map_nil]); first | done | rfl) ?_; refine (h44 _ _ e A c hd (S2.out.FK 0 rfl)).mono ?_; intro x wr hx; rw [h1] at hx; obtain ⟨q1, A1, c1, rfl, hr, hb⟩ := gives2_none hx; refine ⟨_, rfl, ?_⟩; have T1 := Asd.mk (S2.out.call hb hr); clear hb hr hx)
    | ((with_reducible refine gate_dst (N := 4) rfl ?_); (try (refine gate_guard (by rfl) ?_; dsimp only)); refine box_event ?hg (N := 4) ?hd (cs := #[.int .i64 0, .int .i64 0, .int .i64 0, .int .i64 0, .string (⟨#[]⟩ : ByteArray), .slice none 0 0]) (t := 24) ?hr ?_; (case hd => rfl); (case hg => rfl); (case hr => first | (go_simp; done) | (go_simp; rfl)); intro g4 hg wU1 hbox hb; have U1 := Asd.mk (T1.out.box hg hbox hb); clear hb hbox hg; obtain ⟨au00, au01, au02, au03, au04, au05, bu00, bu01, bu02, bu03, bu04, bu05⟩ := U1.out.cells6 0 rfl; obtain ⟨av00, av01, av02, av03, av04, av05, bv00, bv01, bv02, bv03, bv04, bv05⟩ := U1.out.cells6 1 rfl; obtain ⟨aw00, aw01, aw02, aw03, aw04, aw05, bw00, bw01, bw02, bw03, bw04, bw05⟩ := U1.out.cells6 2 rfl; obtain ⟨n0a, n0b⟩ := U1.out.ne 0 1 rfl rfl (by decide); obtain ⟨n0c, n0d⟩ := U1.out.ne 0 2 rfl rfl (by decide))
    | ((with_reducible refine gate_callee (f := 45) rfl ?_); refine goesL_ (some 19) rfl rfl Try.func45 (by kernel_rfl) rfl #[.agg #[.int .i64 e.f0, .int .i64 e.f1, .int .i64 e.f2, .int .i64 e.f3, .string e.f4, .slice A e.f5.length c]] rfl (by (try simp only [List.map_toArray, List.map_cons, List.map_nil]); first | done | rfl) ?_; have Q1 := Asd.mk (U1.out.put6 0 rfl (v0 := .int .i64 q1.f0) (v1 := .int .i64 q1.f1) (v2 := .int .i64 q1.f2) (v3 := .int .i64 q1.f3) (v4 := .string q1.f4) (v5 := .slice A1 q1.f5.length c1)); refine (h45 _ _ e A c trivial (Q1.out.FK 1 rfl)).mono ?_; intro x wr hx; rw [h2] at hx; obtain ⟨q2, A2, c2, rfl, hr, hb⟩ := gives2_none hx; refine ⟨_, rfl, ?_⟩; have T2 := Asd.mk (Q1.out.call hb hr); clear hb hr hx)
    | ((with_reducible refine gate_dst (N := 6) rfl ?_); (try (refine gate_guard (by rfl) ?_; dsimp only)); refine box_event ?hg (N := 6) ?hd (cs := #[.int .i64 0, .int .i64 0, .int .i64 0, .int .i64 0, .string (⟨#[]⟩ : ByteArray), .slice none 0 0]) (t := 24) ?hr ?_; (case hd => rfl); (case hg => rfl); (case hr => first | (go_simp; done) | (go_simp; rfl)); intro g6 hg wU2 hbox hb; have U2 := Asd.mk (T2.out.box hg hbox hb); clear hb hbox hg; obtain ⟨au10, au11, au12, au13, au14, au15, bu10, bu11, bu12, bu13, bu14, bu15⟩ := U2.out.cells6 0 rfl; obtain ⟨av10, av11, av12, av13, av14, av15, bv10, bv11, bv12, bv13, bv14, bv15⟩ := U2.out.cells6 2 rfl; obtain ⟨aw10, aw11, aw12, aw13, aw14, aw15, bw10, bw11, bw12, bw13, bw14, bw15⟩ := U2.out.cells6 3 rfl; obtain ⟨n1a, n1b⟩ := U2.out.ne 0 2 rfl rfl (by decide); obtain ⟨n1c, n1d⟩ := U2.out.ne 0 3 rfl rfl (by decide))
    | ((with_reducible refine gate_callee (f := 46) rfl ?_); refine goesL_ (some 26) rfl rfl Try.func46 (by kernel_rfl) rfl #[.agg #[.int .i64 e.f0, .int .i64 e.f1, .int .i64 e.f2, .int .i64 e.f3, .string e.f4, .slice A e.f5.length c]] rfl (by (try simp only [List.map_toArray, List.map_cons, List.map_nil]); first | done | rfl) ?_; have Q2 := Asd.mk (U2.out.put6 0 rfl (v0 := .int .i64 q2.f0) (v1 := .int .i64 q2.f1) (v2 := .int .i64 q2.f2) (v3 := .int .i64 q2.f3) (v4 := .string q2.f4) (v5 := .slice A2 q2.f5.length c2)); refine (h46 _ _ e A c trivial (Q2.out.FK 2 rfl)).mono ?_; intro x wr hx; rw [h3] at hx; obtain ⟨A3, c3, rfl, hr, hb⟩ := gives2_some hx; refine ⟨_, rfl, ?_⟩; have T3 := Asd.mk (Q2.out.call hb hr); clear hb hr hx)
    | ((with_reducible refine gate_dst (N := 8) rfl ?_); (try (refine gate_guard (by rfl) ?_; dsimp only)); refine box_event ?hg (N := 8) ?hd (cs := #[.int .i64 0, .int .i64 0, .int .i64 0, .int .i64 0, .string (⟨#[]⟩ : ByteArray), .slice none 0 0]) (t := 24) ?hr ?_; (case hd => rfl); (case hg => rfl); (case hr => first | (go_simp; done) | (go_simp; rfl)); intro g8 hg wU3 hbox hb; have U3 := Asd.mk (T3.out.box hg hbox hb); clear hb hbox hg; obtain ⟨au20, au21, au22, au23, au24, au25, bu20, bu21, bu22, bu23, bu24, bu25⟩ := U3.out.cells6 0 rfl; obtain ⟨av20, av21, av22, av23, av24, av25, bv20, bv21, bv22, bv23, bv24, bv25⟩ := U3.out.cells6 3 rfl; obtain ⟨aw20, aw21, aw22, aw23, aw24, aw25, bw20, bw21, bw22, bw23, bw24, bw25⟩ := U3.out.cells6 4 rfl; obtain ⟨n2a, n2b⟩ := U3.out.ne 0 3 rfl rfl (by decide); obtain ⟨n2c, n2d⟩ := U3.out.ne 0 4 rfl rfl (by decide)))
  have S6 := (U3.out.put6 0 rfl (v0 := .int .i64 r.f0) (v1 := .int .i64 r.f1) (v2 := .int .i64 r.f2) (v3 := .int .i64 r.f3) (v4 := .string r.f4) (v5 := .slice A3 r.f5.length c3)).put6 3 rfl (v0 := .int .i64 r.f0) (v1 := .int .i64 r.f1) (v2 := .int .i64 r.f2) (v3 := .int .i64 r.f3) (v4 := .string r.f4) (v5 := .slice A3 r.f5.length c3)
  refine bodyPost_ret (results_ct rfl _ _ g2 24 #[.int .i64 r.f0, .int .i64 r.f1, .int .i64 r.f2, .int .i64 r.f3, .string r.f4, .slice A3 r.f5.length c3] (0, 0) _ rfl (S6.blk 3 rfl) Try.underlying24 rfl (by kernel_rfl)) rfl ?_
  exact ⟨r, A3, c3, by first | rfl | simp [*], S6.out 0 rfl, fun r' hr => by cases hr; rfl, S6.below⟩
set_option maxHeartbeats 2000000 in
set_option maxRecDepth 100000 in
theorem once_4 {s44 s45 s46 : S24 → Option S24} {dom : S24 → Prop} (h44 : RuleO 44 s44 dom) (h45 : RuleO 45 s45 (fun _ => True)) (h46 : RuleO 46 s46 (fun _ => True)) {w : World} {ok : Nat → Prop} {e r : S24} {A : Option Addr} {c : Nat} (hd : dom e) (hf : Kd.FK k24 w ok e (cel e A c)) (h1 : s44 e = none) (h2 : s45 e = none) (h3 : s46 e = none) (h8 : e.f0 = 8) (h5 : e.f5 = [r]) (hr1 : r.f0 = 1) :
    Calls Try.prog 21 #[.agg #[.int .i64 e.f0, .int .i64 e.f1, .int .i64 e.f2, .int .i64 e.f3, .string e.f4, .slice A e.f5.length c]] w (Gives2 w ok (some r)) := by
  obtain ⟨ad, A0, c0, rfl, _⟩ := elem0 hf h5
  have hu24 := Try.underlying24
  have S0 := Asd.mk (Hs.start hf)
  clear hf
  have k1 : (e.f0 == 8) = true := beq_iff_eq.mpr h8
  have k2 : ((e.f5.length : Int) == 1) = true := by rw [h5]; rfl
  have k3 : (0 < e.f5.length) = True := eq_true (by rw [h5]; simp)
  have k4 : (r.f0 == 1) = true := beq_iff_eq.mpr hr1
  have k5 : decide (0 < e.f5.length) = true := decide_eq_true (by rw [h5]; simp)
  have k6 : ((0 : Int) < (e.f5.length : Int)) = True := eq_true (by rw [h5]; simp)
  have H5 := Asd.mk h5
  clear h8 hr1 h5
  go_enter Try.func21, Try.ntmps21
  go_upto_region 10 with (first
    | ((with_reducible refine gate_dst (N := 1) rfl ?_); (try (refine gate_guard (by rfl) ?_; dsimp only)); refine box_event ?hg (N := 1) ?hd (cs := #[.int .i64 e.f0, .int .i64 e.f1, .int .i64 e.f2, .int .i64 e.f3, .string e.f4, .slice (some ad) e.f5.length c]) (t := 24) ?hr ?_; (case hd => rfl); (case hg => rfl); (case hr => first | (go_simp; done) | (go_simp; rfl)); intro g1 hg wS1 hbox hb; have S1 := Asd.mk (S0.out.box hg hbox hb); clear hb hbox hg)
    | ((with_reducible refine gate_dst (N := 2) rfl ?_); (try (refine gate_guard (by rfl) ?_; dsimp only)); refine box_event ?hg (N := 2) ?hd (cs := #[.int .i64 0, .int .i64 0, .int .i64 0, .int .i64 0, .string (⟨#[]⟩ : ByteArray), .slice none 0 0]) (t := 24) ?hr ?_; (case hd => rfl); (case hg => rfl); (case hr => first | (go_simp; done) | (go_simp; rfl)); intro g2 hg wS2 hbox hb; have S2 := Asd.mk (S1.out.box hg hbox hb); clear hb hbox hg; obtain ⟨ap0, ap1, ap2, ap3, ap4, ap5, bp0, bp1, bp2, bp3, bp4, bp5⟩ := S2.out.cells6 1 rfl)
    | ((with_reducible refine gate_callee (f := 44) rfl ?_); refine goesL_ (some 12) rfl rfl Try.func44 (by kernel_rfl) rfl #[.agg #[.int .i64 e.f0, .int .i64 e.f1, .int .i64 e.f2, .int .i64 e.f3, .string e.f4, .slice (some ad) e.f5.length c]] rfl (by (try simp only [List.map_toArray, List.map_cons, List.map_nil]); first | done | rfl) ?_; refine (h44 _ _ e (some ad) c hd (S2.out.FK 0 rfl)).mono ?_; intro x wr hx; rw [h1] at hx; obtain ⟨q1, A1, c1, rfl, hr, hb⟩ := gives2_none hx; refine ⟨_, rfl, ?_⟩; have T1 := Asd.mk (S2.out.call hb hr); clear hb hr hx)
    | ((with_reducible refine gate_dst (N := 4) rfl ?_); (try (refine gate_guard (by rfl) ?_; dsimp only)); refine box_event ?hg (N := 4) ?hd (cs := #[.int .i64 0, .int .i64 0, .int .i64 0, .int .i64 0, .string (⟨#[]⟩ : ByteArray), .slice none 0 0]) (t := 24) ?hr ?_; (case hd => rfl); (case hg => rfl); (case hr => first | (go_simp; done) | (go_simp; rfl)); intro g4 hg wU1 hbox hb; have U1 := Asd.mk (T1.out.box hg hbox hb); clear hb hbox hg; obtain ⟨au00, au01, au02, au03, au04, au05, bu00, bu01, bu02, bu03, bu04, bu05⟩ := U1.out.cells6 0 rfl; obtain ⟨av00, av01, av02, av03, av04, av05, bv00, bv01, bv02, bv03, bv04, bv05⟩ := U1.out.cells6 1 rfl; obtain ⟨aw00, aw01, aw02, aw03, aw04, aw05, bw00, bw01, bw02, bw03, bw04, bw05⟩ := U1.out.cells6 2 rfl; obtain ⟨n0a, n0b⟩ := U1.out.ne 0 1 rfl rfl (by decide); obtain ⟨n0c, n0d⟩ := U1.out.ne 0 2 rfl rfl (by decide))
    | ((with_reducible refine gate_callee (f := 45) rfl ?_); refine goesL_ (some 19) rfl rfl Try.func45 (by kernel_rfl) rfl #[.agg #[.int .i64 e.f0, .int .i64 e.f1, .int .i64 e.f2, .int .i64 e.f3, .string e.f4, .slice (some ad) e.f5.length c]] rfl (by (try simp only [List.map_toArray, List.map_cons, List.map_nil]); first | done | rfl) ?_; have Q1 := Asd.mk (U1.out.put6 0 rfl (v0 := .int .i64 q1.f0) (v1 := .int .i64 q1.f1) (v2 := .int .i64 q1.f2) (v3 := .int .i64 q1.f3) (v4 := .string q1.f4) (v5 := .slice A1 q1.f5.length c1)); refine (h45 _ _ e (some ad) c trivial (Q1.out.FK 1 rfl)).mono ?_; intro x wr hx; rw [h2] at hx; obtain ⟨q2, A2, c2, rfl, hr, hb⟩ := gives2_none hx; refine ⟨_, rfl, ?_⟩; have T2 := Asd.mk (Q1.out.call hb hr); clear hb hr hx)
    | ((with_reducible refine gate_dst (N := 6) rfl ?_); (try (refine gate_guard (by rfl) ?_; dsimp only)); refine box_event ?hg (N := 6) ?hd (cs := #[.int .i64 0, .int .i64 0, .int .i64 0, .int .i64 0, .string (⟨#[]⟩ : ByteArray), .slice none 0 0]) (t := 24) ?hr ?_; (case hd => rfl); (case hg => rfl); (case hr => first | (go_simp; done) | (go_simp; rfl)); intro g6 hg wU2 hbox hb; have U2 := Asd.mk (T2.out.box hg hbox hb); clear hb hbox hg; obtain ⟨au10, au11, au12, au13, au14, au15, bu10, bu11, bu12, bu13, bu14, bu15⟩ := U2.out.cells6 0 rfl; obtain ⟨av10, av11, av12, av13, av14, av15, bv10, bv11, bv12, bv13, bv14, bv15⟩ := U2.out.cells6 2 rfl; obtain ⟨aw10, aw11, aw12, aw13, aw14, aw15, bw10, bw11, bw12, bw13, bw14, bw15⟩ := U2.out.cells6 3 rfl; obtain ⟨n1a, n1b⟩ := U2.out.ne 0 2 rfl rfl (by decide); obtain ⟨n1c, n1d⟩ := U2.out.ne 0 3 rfl rfl (by decide))
    | ((with_reducible refine gate_callee (f := 46) rfl ?_); refine goesL_ (some 26) rfl rfl Try.func46 (by kernel_rfl) rfl #[.agg #[.int .i64 e.f0, .int .i64 e.f1, .int .i64 e.f2, .int .i64 e.f3, .string e.f4, .slice (some ad) e.f5.length c]] rfl (by (try simp only [List.map_toArray, List.map_cons, List.map_nil]); first | done | rfl) ?_; have Q2 := Asd.mk (U2.out.put6 0 rfl (v0 := .int .i64 q2.f0) (v1 := .int .i64 q2.f1) (v2 := .int .i64 q2.f2) (v3 := .int .i64 q2.f3) (v4 := .string q2.f4) (v5 := .slice A2 q2.f5.length c2)); refine (h46 _ _ e (some ad) c trivial (Q2.out.FK 2 rfl)).mono ?_; intro x wr hx; rw [h3] at hx; obtain ⟨q3, A3, c3, rfl, hr, hb⟩ := gives2_none hx; refine ⟨_, rfl, ?_⟩; have T3 := Asd.mk (Q2.out.call hb hr); clear hb hr hx)
    | ((with_reducible refine gate_dst (N := 8) rfl ?_); (try (refine gate_guard (by rfl) ?_; dsimp only)); refine box_event ?hg (N := 8) ?hd (cs := #[.int .i64 0, .int .i64 0, .int .i64 0, .int .i64 0, .string (⟨#[]⟩ : ByteArray), .slice none 0 0]) (t := 24) ?hr ?_; (case hd => rfl); (case hg => rfl); (case hr => first | (go_simp; done) | (go_simp; rfl)); intro g8 hg wU3 hbox hb; have U3 := Asd.mk (T3.out.box hg hbox hb); clear hb hbox hg; obtain ⟨au20, au21, au22, au23, au24, au25, bu20, bu21, bu22, bu23, bu24, bu25⟩ := U3.out.cells6 0 rfl; obtain ⟨av20, av21, av22, av23, av24, av25, bv20, bv21, bv22, bv23, bv24, bv25⟩ := U3.out.cells6 3 rfl; obtain ⟨aw20, aw21, aw22, aw23, aw24, aw25, bw20, bw21, bw22, bw23, bw24, bw25⟩ := U3.out.cells6 4 rfl; obtain ⟨n2a, n2b⟩ := U3.out.ne 0 3 rfl rfl (by decide); obtain ⟨n2c, n2d⟩ := U3.out.ne 0 4 rfl rfl (by decide)))
  have S9 := Asd.mk (U3.out.put6 0 rfl (v0 := .int .i64 q3.f0) (v1 := .int .i64 q3.f1) (v2 := .int .i64 q3.f2) (v3 := .int .i64 q3.f3) (v4 := .string q3.f4) (v5 := .slice A3 q3.f5.length c3))
  generalize ((((((wU3.setCell ⟨g8, 0, none⟩ (.int .i64 q3.f0)).setCell ⟨g8, 1, none⟩ (.int .i64 q3.f1)).setCell ⟨g8, 2, none⟩ (.int .i64 q3.f2)).setCell ⟨g8, 3, none⟩ (.int .i64 q3.f3)).setCell ⟨g8, 4, none⟩ (.string q3.f4)).setCell ⟨g8, 5, none⟩ (.slice A3 q3.f5.length c3)) = W9 at S9 ⊢
  clear S0 S1 S2 T1 U1 T2 U2 T3 U3 Q1 Q2
  obtain ⟨ag0, ag1, ag2, ag3, ag4, ag5, bg0, bg1, bg2, bg3, bg4, bg5⟩ := S9.out.cells6 3 rfl
  obtain ⟨ah0, ah1, ah2, ah3, ah4, ah5, bh0, bh1, bh2, bh3, bh4, bh5⟩ := S9.out.cells6 4 rfl
  obtain ⟨ad', A', c', eA, x0, x1, x2, x3, x4, x5, hin, hxK⟩ := elem0 (S9.out.FK 3 rfl) H5.out
  injection eA with eA
  subst eA
  have HX := Asd.mk hxK
  clear hxK hin
  go_wp2
  have S10 := (S9.out.add HX.out).put6 3 rfl (v0 := .int .i64 r.f0) (v1 := .int .i64 r.f1) (v2 := .int .i64 r.f2) (v3 := .int .i64 r.f3) (v4 := .string r.f4) (v5 := .slice A' r.f5.length c')
  refine bodyPost_ret (results_ct rfl _ _ g2 24 #[.int .i64 r.f0, .int .i64 r.f1, .int .i64 r.f2, .int .i64 r.f3, .string r.f4, .slice A' r.f5.length c'] (0, 0) _ rfl (S10.blk 3 rfl) Try.underlying24 rfl (by kernel_rfl)) rfl ?_
  exact ⟨r, A', c', by first | rfl | simp [*], S10.out 0 rfl, fun r' hr => by cases hr; rfl, S10.below⟩
set_option maxHeartbeats 2000000 in
set_option maxRecDepth 100000 in
theorem once_5 (hm : Try.prog.follows .mixedOrders = true) {s44 s45 s46 : S24 → Option S24} {dom : S24 → Prop} (h44 : RuleO 44 s44 dom) (h45 : RuleO 45 s45 (fun _ => True)) (h46 : RuleO 46 s46 (fun _ => True)) {w : World} {ok : Nat → Prop} {e : S24} {A : Option Addr} {c : Nat} (hd : dom e) (hf : Kd.FK k24 w ok e (cel e A c)) (h1 : s44 e = none) (h2 : s45 e = none) (h3 : s46 e = none) (h8 : e.f0 ≠ 8) :
    Calls Try.prog 21 #[.agg #[.int .i64 e.f0, .int .i64 e.f1, .int .i64 e.f2, .int .i64 e.f3, .string e.f4, .slice A e.f5.length c]] w (Gives2 w ok (ofPair (biX e))) := by
  have hu24 := Try.underlying24
  have S0 := Asd.mk (Hs.start hf)
  clear hf
  have k1 : (e.f0 == 8) = false := beq_eq_false_iff_ne.mpr h8
  clear h8
  have HM := Asd.mk hm
  clear hm
  go_enter Try.func21, Try.ntmps21
  go_upto_region 10 with (first
    | ((with_reducible refine gate_dst (N := 1) rfl ?_); (try (refine gate_guard (by rfl) ?_; dsimp only)); refine box_event ?hg (N := 1) ?hd (cs := #[.int .i64 e.f0, .int .i64 e.f1, .int .i64 e.f2, .int .i64 e.f3, .string e.f4, .slice A e.f5.length c]) (t := 24) ?hr ?_; (case hd => rfl); (case hg => rfl); (case hr => first | (go_simp; done) | (go_simp; rfl)); intro g1 hg wS1 hbox hb; have S1 := Asd.mk (S0.out.box hg hbox hb); clear hb hbox hg)
    | ((with_reducible refine gate_dst (N := 2) rfl ?_); (try (refine gate_guard (by rfl) ?_; dsimp only)); refine box_event ?hg (N := 2) ?hd (cs := #[.int .i64 0, .int .i64 0, .int .i64 0, .int .i64 0, .string (⟨#[]⟩ : ByteArray), .slice none 0 0]) (t := 24) ?hr ?_; (case hd => rfl); (case hg => rfl); (case hr => first | (go_simp; done) | (go_simp; rfl)); intro g2 hg wS2 hbox hb; have S2 := Asd.mk (S1.out.box hg hbox hb); clear hb hbox hg; obtain ⟨ap0, ap1, ap2, ap3, ap4, ap5, bp0, bp1, bp2, bp3, bp4, bp5⟩ := S2.out.cells6 1 rfl)
    | ((with_reducible refine gate_callee (f := 44) rfl ?_); refine goesL_ (some 12) rfl rfl Try.func44 (by kernel_rfl) rfl #[.agg #[.int .i64 e.f0, .int .i64 e.f1, .int .i64 e.f2, .int .i64 e.f3, .string e.f4, .slice A e.f5.length c]] rfl (by (try simp only [List.map_toArray, List.map_cons, List.map_nil]); first | done | rfl) ?_; refine (h44 _ _ e A c hd (S2.out.FK 0 rfl)).mono ?_; intro x wr hx; rw [h1] at hx; obtain ⟨q1, A1, c1, rfl, hr, hb⟩ := gives2_none hx; refine ⟨_, rfl, ?_⟩; have T1 := Asd.mk (S2.out.call hb hr); clear hb hr hx)
    | ((with_reducible refine gate_dst (N := 4) rfl ?_); (try (refine gate_guard (by rfl) ?_; dsimp only)); refine box_event ?hg (N := 4) ?hd (cs := #[.int .i64 0, .int .i64 0, .int .i64 0, .int .i64 0, .string (⟨#[]⟩ : ByteArray), .slice none 0 0]) (t := 24) ?hr ?_; (case hd => rfl); (case hg => rfl); (case hr => first | (go_simp; done) | (go_simp; rfl)); intro g4 hg wU1 hbox hb; have U1 := Asd.mk (T1.out.box hg hbox hb); clear hb hbox hg; obtain ⟨au00, au01, au02, au03, au04, au05, bu00, bu01, bu02, bu03, bu04, bu05⟩ := U1.out.cells6 0 rfl; obtain ⟨av00, av01, av02, av03, av04, av05, bv00, bv01, bv02, bv03, bv04, bv05⟩ := U1.out.cells6 1 rfl; obtain ⟨aw00, aw01, aw02, aw03, aw04, aw05, bw00, bw01, bw02, bw03, bw04, bw05⟩ := U1.out.cells6 2 rfl; obtain ⟨n0a, n0b⟩ := U1.out.ne 0 1 rfl rfl (by decide); obtain ⟨n0c, n0d⟩ := U1.out.ne 0 2 rfl rfl (by decide))
    | ((with_reducible refine gate_callee (f := 45) rfl ?_); refine goesL_ (some 19) rfl rfl Try.func45 (by kernel_rfl) rfl #[.agg #[.int .i64 e.f0, .int .i64 e.f1, .int .i64 e.f2, .int .i64 e.f3, .string e.f4, .slice A e.f5.length c]] rfl (by (try simp only [List.map_toArray, List.map_cons, List.map_nil]); first | done | rfl) ?_; have Q1 := Asd.mk (U1.out.put6 0 rfl (v0 := .int .i64 q1.f0) (v1 := .int .i64 q1.f1) (v2 := .int .i64 q1.f2) (v3 := .int .i64 q1.f3) (v4 := .string q1.f4) (v5 := .slice A1 q1.f5.length c1)); refine (h45 _ _ e A c trivial (Q1.out.FK 1 rfl)).mono ?_; intro x wr hx; rw [h2] at hx; obtain ⟨q2, A2, c2, rfl, hr, hb⟩ := gives2_none hx; refine ⟨_, rfl, ?_⟩; have T2 := Asd.mk (Q1.out.call hb hr); clear hb hr hx)
    | ((with_reducible refine gate_dst (N := 6) rfl ?_); (try (refine gate_guard (by rfl) ?_; dsimp only)); refine box_event ?hg (N := 6) ?hd (cs := #[.int .i64 0, .int .i64 0, .int .i64 0, .int .i64 0, .string (⟨#[]⟩ : ByteArray), .slice none 0 0]) (t := 24) ?hr ?_; (case hd => rfl); (case hg => rfl); (case hr => first | (go_simp; done) | (go_simp; rfl)); intro g6 hg wU2 hbox hb; have U2 := Asd.mk (T2.out.box hg hbox hb); clear hb hbox hg; obtain ⟨au10, au11, au12, au13, au14, au15, bu10, bu11, bu12, bu13, bu14, bu15⟩ := U2.out.cells6 0 rfl; obtain ⟨av10, av11, av12, av13, av14, av15, bv10, bv11, bv12, bv13, bv14, bv15⟩ := U2.out.cells6 2 rfl; obtain ⟨aw10, aw11, aw12, aw13, aw14, aw15, bw10, bw11, bw12, bw13, bw14, bw15⟩ := U2.out.cells6 3 rfl; obtain ⟨n1a, n1b⟩ := U2.out.ne 0 2 rfl rfl (by decide); obtain ⟨n1c, n1d⟩ := U2.out.ne 0 3 rfl rfl (by decide))
    | ((with_reducible refine gate_callee (f := 46) rfl ?_); refine goesL_ (some 26) rfl rfl Try.func46 (by kernel_rfl) rfl #[.agg #[.int .i64 e.f0, .int .i64 e.f1, .int .i64 e.f2, .int .i64 e.f3, .string e.f4, .slice A e.f5.length c]] rfl (by (try simp only [List.map_toArray, List.map_cons, List.map_nil]); first | done | rfl) ?_; have Q2 := Asd.mk (U2.out.put6 0 rfl (v0 := .int .i64 q2.f0) (v1 := .int .i64 q2.f1) (v2 := .int .i64 q2.f2) (v3 := .int .i64 q2.f3) (v4 := .string q2.f4) (v5 := .slice A2 q2.f5.length c2)); refine (h46 _ _ e A c trivial (Q2.out.FK 2 rfl)).mono ?_; intro x wr hx; rw [h3] at hx; obtain ⟨q3, A3, c3, rfl, hr, hb⟩ := gives2_none hx; refine ⟨_, rfl, ?_⟩; have T3 := Asd.mk (Q2.out.call hb hr); clear hb hr hx)
    | ((with_reducible refine gate_dst (N := 8) rfl ?_); (try (refine gate_guard (by rfl) ?_; dsimp only)); refine box_event ?hg (N := 8) ?hd (cs := #[.int .i64 0, .int .i64 0, .int .i64 0, .int .i64 0, .string (⟨#[]⟩ : ByteArray), .slice none 0 0]) (t := 24) ?hr ?_; (case hd => rfl); (case hg => rfl); (case hr => first | (go_simp; done) | (go_simp; rfl)); intro g8 hg wU3 hbox hb; have U3 := Asd.mk (T3.out.box hg hbox hb); clear hb hbox hg; obtain ⟨au20, au21, au22, au23, au24, au25, bu20, bu21, bu22, bu23, bu24, bu25⟩ := U3.out.cells6 0 rfl; obtain ⟨av20, av21, av22, av23, av24, av25, bv20, bv21, bv22, bv23, bv24, bv25⟩ := U3.out.cells6 3 rfl; obtain ⟨aw20, aw21, aw22, aw23, aw24, aw25, bw20, bw21, bw22, bw23, bw24, bw25⟩ := U3.out.cells6 4 rfl; obtain ⟨n2a, n2b⟩ := U3.out.ne 0 3 rfl rfl (by decide); obtain ⟨n2c, n2d⟩ := U3.out.ne 0 4 rfl rfl (by decide)))
  have S9 := Asd.mk (U3.out.put6 0 rfl (v0 := .int .i64 q3.f0) (v1 := .int .i64 q3.f1) (v2 := .int .i64 q3.f2) (v3 := .int .i64 q3.f3) (v4 := .string q3.f4) (v5 := .slice A3 q3.f5.length c3))
  generalize ((((((wU3.setCell ⟨g8, 0, none⟩ (.int .i64 q3.f0)).setCell ⟨g8, 1, none⟩ (.int .i64 q3.f1)).setCell ⟨g8, 2, none⟩ (.int .i64 q3.f2)).setCell ⟨g8, 3, none⟩ (.int .i64 q3.f3)).setCell ⟨g8, 4, none⟩ (.string q3.f4)).setCell ⟨g8, 5, none⟩ (.slice A3 q3.f5.length c3)) = W9 at S9 ⊢
  clear S0 S1 S2 T1 U1 T2 U2 T3 U3 Q1 Q2
  obtain ⟨ag0, ag1, ag2, ag3, ag4, ag5, bg0, bg1, bg2, bg3, bg4, bg5⟩ := S9.out.cells6 3 rfl
  obtain ⟨ah0, ah1, ah2, ah3, ah4, ah5, bh0, bh1, bh2, bh3, bh4, bh5⟩ := S9.out.cells6 4 rfl
  go_wp2_with ((with_reducible refine gate_callee (f := 47) rfl ?_); refine goesL_ (some 63) rfl rfl Try.func47 (by kernel_rfl) rfl #[.agg #[.int .i64 e.f0, .int .i64 e.f1, .int .i64 e.f2, .int .i64 e.f3, .string e.f4, .slice A e.f5.length c], .slice (some ⟨W9.heap.size, 0, none⟩) 9 9] rfl (by (try simp only [List.map_toArray, List.map_cons, List.map_nil]); first | done | rfl) ?_; refine (other_call HM.out (S9.out.FK 3 rfl)).mono ?_; rintro x wr ⟨r, A9, c9, rfl, hr, hr2, hb⟩; refine ⟨_, rfl, ?_⟩; have S10 := Asd.mk ((S9.out.step (wAl (Below.refl _ _) _)).call hb (Kd.FK_mono hr fun _ hk => hk)); have HR2 := Asd.mk hr2; clear hb hr hr2; obtain ⟨az0, az1, az2, az3, az4, az5, bz0, bz1, bz2, bz3, bz4, bz5⟩ := S10.out.cells6 3 rfl)
  have S11 := S10.out.put6 3 rfl (v0 := .int .i64 r.f0) (v1 := .int .i64 r.f1) (v2 := .int .i64 r.f2) (v3 := .int .i64 r.f3) (v4 := .string r.f4) (v5 := .slice A9 r.f5.length c9)
  refine bodyPost_ret (results_ct rfl _ _ g2 24 #[.int .i64 r.f0, .int .i64 r.f1, .int .i64 r.f2, .int .i64 r.f3, .string r.f4, .slice A9 r.f5.length c9] (0, 0) _ rfl (S11.blk 3 rfl) Try.underlying24 rfl (by kernel_rfl)) rfl ?_
  exact ⟨r, A9, c9, by first | rfl | simp [*], S11.out 0 rfl, HR2.out, S11.below⟩
set_option maxHeartbeats 2000000 in
set_option maxRecDepth 100000 in
theorem once_6 (hm : Try.prog.follows .mixedOrders = true) {s44 s45 s46 : S24 → Option S24} {dom : S24 → Prop} (h44 : RuleO 44 s44 dom) (h45 : RuleO 45 s45 (fun _ => True)) (h46 : RuleO 46 s46 (fun _ => True)) {w : World} {ok : Nat → Prop} {e : S24} {A : Option Addr} {c : Nat} (hd : dom e) (hf : Kd.FK k24 w ok e (cel e A c)) (h1 : s44 e = none) (h2 : s45 e = none) (h3 : s46 e = none) (h8 : e.f0 = 8) (hl : e.f5.length ≠ 1) :
    Calls Try.prog 21 #[.agg #[.int .i64 e.f0, .int .i64 e.f1, .int .i64 e.f2, .int .i64 e.f3, .string e.f4, .slice A e.f5.length c]] w (Gives2 w ok (ofPair (biX e))) := by
  have hu24 := Try.underlying24
  have S0 := Asd.mk (Hs.start hf)
  clear hf
  have k1 : (e.f0 == 8) = true := beq_iff_eq.mpr h8
  have k2 : ((e.f5.length : Int) == 1) = false := beq_eq_false_iff_ne.mpr (by omega)
  clear h8 hl
  have HM := Asd.mk hm
  clear hm
  go_enter Try.func21, Try.ntmps21
  go_upto_region 10 with (first
    | ((with_reducible refine gate_dst (N := 1) rfl ?_); (try (refine gate_guard (by rfl) ?_; dsimp only)); refine box_event ?hg (N := 1) ?hd (cs := #[.int .i64 e.f0, .int .i64 e.f1, .int .i64 e.f2, .int .i64 e.f3, .string e.f4, .slice A e.f5.length c]) (t := 24) ?hr ?_; (case hd => rfl); (case hg => rfl); (case hr => first | (go_simp; done) | (go_simp; rfl)); intro g1 hg wS1 hbox hb; have S1 := Asd.mk (S0.out.box hg hbox hb); clear hb hbox hg)
    | ((with_reducible refine gate_dst (N := 2) rfl ?_); (try (refine gate_guard (by rfl) ?_; dsimp only)); refine box_event ?hg (N := 2) ?hd (cs := #[.int .i64 0, .int .i64 0, .int .i64 0, .int .i64 0, .string (⟨#[]⟩ : ByteArray), .slice none 0 0]) (t := 24) ?hr ?_; (case hd => rfl); (case hg => rfl); (case hr => first | (go_simp; done) | (go_simp; rfl)); intro g2 hg wS2 hbox hb; have S2 := Asd.mk (S1.out.box hg hbox hb); clear hb hbox hg; obtain ⟨ap0, ap1, ap2, ap3, ap4, ap5, bp0, bp1, bp2, bp3, bp4, bp5⟩ := S2.out.cells6 1 rfl)
    | ((with_reducible refine gate_callee (f := 44) rfl ?_); refine goesL_ (some 12) rfl rfl Try.func44 (by kernel_rfl) rfl #[.agg #[.int .i64 e.f0, .int .i64 e.f1, .int .i64 e.f2, .int .i64 e.f3, .string e.f4, .slice A e.f5.length c]] rfl (by (try simp only [List.map_toArray, List.map_cons, List.map_nil]); first | done | rfl) ?_; refine (h44 _ _ e A c hd (S2.out.FK 0 rfl)).mono ?_; intro x wr hx; rw [h1] at hx; obtain ⟨q1, A1, c1, rfl, hr, hb⟩ := gives2_none hx; refine ⟨_, rfl, ?_⟩; have T1 := Asd.mk (S2.out.call hb hr); clear hb hr hx)
    | ((with_reducible refine gate_dst (N := 4) rfl ?_); (try (refine gate_guard (by rfl) ?_; dsimp only)); refine box_event ?hg (N := 4) ?hd (cs := #[.int .i64 0, .int .i64 0, .int .i64 0, .int .i64 0, .string (⟨#[]⟩ : ByteArray), .slice none 0 0]) (t := 24) ?hr ?_; (case hd => rfl); (case hg => rfl); (case hr => first | (go_simp; done) | (go_simp; rfl)); intro g4 hg wU1 hbox hb; have U1 := Asd.mk (T1.out.box hg hbox hb); clear hb hbox hg; obtain ⟨au00, au01, au02, au03, au04, au05, bu00, bu01, bu02, bu03, bu04, bu05⟩ := U1.out.cells6 0 rfl; obtain ⟨av00, av01, av02, av03, av04, av05, bv00, bv01, bv02, bv03, bv04, bv05⟩ := U1.out.cells6 1 rfl; obtain ⟨aw00, aw01, aw02, aw03, aw04, aw05, bw00, bw01, bw02, bw03, bw04, bw05⟩ := U1.out.cells6 2 rfl; obtain ⟨n0a, n0b⟩ := U1.out.ne 0 1 rfl rfl (by decide); obtain ⟨n0c, n0d⟩ := U1.out.ne 0 2 rfl rfl (by decide))
    | ((with_reducible refine gate_callee (f := 45) rfl ?_); refine goesL_ (some 19) rfl rfl Try.func45 (by kernel_rfl) rfl #[.agg #[.int .i64 e.f0, .int .i64 e.f1, .int .i64 e.f2, .int .i64 e.f3, .string e.f4, .slice A e.f5.length c]] rfl (by (try simp only [List.map_toArray, List.map_cons, List.map_nil]); first | done | rfl) ?_; have Q1 := Asd.mk (U1.out.put6 0 rfl (v0 := .int .i64 q1.f0) (v1 := .int .i64 q1.f1) (v2 := .int .i64 q1.f2) (v3 := .int .i64 q1.f3) (v4 := .string q1.f4) (v5 := .slice A1 q1.f5.length c1)); refine (h45 _ _ e A c trivial (Q1.out.FK 1 rfl)).mono ?_; intro x wr hx; rw [h2] at hx; obtain ⟨q2, A2, c2, rfl, hr, hb⟩ := gives2_none hx; refine ⟨_, rfl, ?_⟩; have T2 := Asd.mk (Q1.out.call hb hr); clear hb hr hx)
    | ((with_reducible refine gate_dst (N := 6) rfl ?_); (try (refine gate_guard (by rfl) ?_; dsimp only)); refine box_event ?hg (N := 6) ?hd (cs := #[.int .i64 0, .int .i64 0, .int .i64 0, .int .i64 0, .string (⟨#[]⟩ : ByteArray), .slice none 0 0]) (t := 24) ?hr ?_; (case hd => rfl); (case hg => rfl); (case hr => first | (go_simp; done) | (go_simp; rfl)); intro g6 hg wU2 hbox hb; have U2 := Asd.mk (T2.out.box hg hbox hb); clear hb hbox hg; obtain ⟨au10, au11, au12, au13, au14, au15, bu10, bu11, bu12, bu13, bu14, bu15⟩ := U2.out.cells6 0 rfl; obtain ⟨av10, av11, av12, av13, av14, av15, bv10, bv11, bv12, bv13, bv14, bv15⟩ := U2.out.cells6 2 rfl; obtain ⟨aw10, aw11, aw12, aw13, aw14, aw15, bw10, bw11, bw12, bw13, bw14, bw15⟩ := U2.out.cells6 3 rfl; obtain ⟨n1a, n1b⟩ := U2.out.ne 0 2 rfl rfl (by decide); obtain ⟨n1c, n1d⟩ := U2.out.ne 0 3 rfl rfl (by decide))
    | ((with_reducible refine gate_callee (f := 46) rfl ?_); refine goesL_ (some 26) rfl rfl Try.func46 (by kernel_rfl) rfl #[.agg #[.int .i64 e.f0, .int .i64 e.f1, .int .i64 e.f2, .int .i64 e.f3, .string e.f4, .slice A e.f5.length c]] rfl (by (try simp only [List.map_toArray, List.map_cons, List.map_nil]); first | done | rfl) ?_; have Q2 := Asd.mk (U2.out.put6 0 rfl (v0 := .int .i64 q2.f0) (v1 := .int .i64 q2.f1) (v2 := .int .i64 q2.f2) (v3 := .int .i64 q2.f3) (v4 := .string q2.f4) (v5 := .slice A2 q2.f5.length c2)); refine (h46 _ _ e A c trivial (Q2.out.FK 2 rfl)).mono ?_; intro x wr hx; rw [h3] at hx; obtain ⟨q3, A3, c3, rfl, hr, hb⟩ := gives2_none hx; refine ⟨_, rfl, ?_⟩; have T3 := Asd.mk (Q2.out.call hb hr); clear hb hr hx)
    | ((with_reducible refine gate_dst (N := 8) rfl ?_); (try (refine gate_guard (by rfl) ?_; dsimp only)); refine box_event ?hg (N := 8) ?hd (cs := #[.int .i64 0, .int .i64 0, .int .i64 0, .int .i64 0, .string (⟨#[]⟩ : ByteArray), .slice none 0 0]) (t := 24) ?hr ?_; (case hd => rfl); (case hg => rfl); (case hr => first | (go_simp; done) | (go_simp; rfl)); intro g8 hg wU3 hbox hb; have U3 := Asd.mk (T3.out.box hg hbox hb); clear hb hbox hg; obtain ⟨au20, au21, au22, au23, au24, au25, bu20, bu21, bu22, bu23, bu24, bu25⟩ := U3.out.cells6 0 rfl; obtain ⟨av20, av21, av22, av23, av24, av25, bv20, bv21, bv22, bv23, bv24, bv25⟩ := U3.out.cells6 3 rfl; obtain ⟨aw20, aw21, aw22, aw23, aw24, aw25, bw20, bw21, bw22, bw23, bw24, bw25⟩ := U3.out.cells6 4 rfl; obtain ⟨n2a, n2b⟩ := U3.out.ne 0 3 rfl rfl (by decide); obtain ⟨n2c, n2d⟩ := U3.out.ne 0 4 rfl rfl (by decide)))
  have S9 := Asd.mk (U3.out.put6 0 rfl (v0 := .int .i64 q3.f0) (v1 := .int .i64 q3.f1) (v2 := .int .i64 q3.f2) (v3 := .int .i64 q3.f3) (v4 := .string q3.f4) (v5 := .slice A3 q3.f5.length c3))
  generalize ((((((wU3.setCell ⟨g8, 0, none⟩ (.int .i64 q3.f0)).setCell ⟨g8, 1, none⟩ (.int .i64 q3.f1)).setCell ⟨g8, 2, none⟩ (.int .i64 q3.f2)).setCell ⟨g8, 3, none⟩ (.int .i64 q3.f3)).setCell ⟨g8, 4, none⟩ (.string q3.f4)).setCell ⟨g8, 5, none⟩ (.slice A3 q3.f5.length c3)) = W9 at S9 ⊢
  clear S0 S1 S2 T1 U1 T2 U2 T3 U3 Q1 Q2
  obtain ⟨ag0, ag1, ag2, ag3, ag4, ag5, bg0, bg1, bg2, bg3, bg4, bg5⟩ := S9.out.cells6 3 rfl
  obtain ⟨ah0, ah1, ah2, ah3, ah4, ah5, bh0, bh1, bh2, bh3, bh4, bh5⟩ := S9.out.cells6 4 rfl
  go_wp2_with ((with_reducible refine gate_callee (f := 47) rfl ?_); refine goesL_ (some 63) rfl rfl Try.func47 (by kernel_rfl) rfl #[.agg #[.int .i64 e.f0, .int .i64 e.f1, .int .i64 e.f2, .int .i64 e.f3, .string e.f4, .slice A e.f5.length c], .slice (some ⟨W9.heap.size, 0, none⟩) 9 9] rfl (by (try simp only [List.map_toArray, List.map_cons, List.map_nil]); first | done | rfl) ?_; refine (other_call HM.out (S9.out.FK 3 rfl)).mono ?_; rintro x wr ⟨r, A9, c9, rfl, hr, hr2, hb⟩; refine ⟨_, rfl, ?_⟩; have S10 := Asd.mk ((S9.out.step (wAl (Below.refl _ _) _)).call hb (Kd.FK_mono hr fun _ hk => hk)); have HR2 := Asd.mk hr2; clear hb hr hr2; obtain ⟨az0, az1, az2, az3, az4, az5, bz0, bz1, bz2, bz3, bz4, bz5⟩ := S10.out.cells6 3 rfl)
  have S11 := S10.out.put6 3 rfl (v0 := .int .i64 r.f0) (v1 := .int .i64 r.f1) (v2 := .int .i64 r.f2) (v3 := .int .i64 r.f3) (v4 := .string r.f4) (v5 := .slice A9 r.f5.length c9)
  refine bodyPost_ret (results_ct rfl _ _ g2 24 #[.int .i64 r.f0, .int .i64 r.f1, .int .i64 r.f2, .int .i64 r.f3, .string r.f4, .slice A9 r.f5.length c9] (0, 0) _ rfl (S11.blk 3 rfl) Try.underlying24 rfl (by kernel_rfl)) rfl ?_
  exact ⟨r, A9, c9, by first | rfl | simp [*], S11.out 0 rfl, HR2.out, S11.below⟩
set_option maxHeartbeats 2000000 in
set_option maxRecDepth 100000 in
theorem once_7 (hm : Try.prog.follows .mixedOrders = true) {s44 s45 s46 : S24 → Option S24} {dom : S24 → Prop} (h44 : RuleO 44 s44 dom) (h45 : RuleO 45 s45 (fun _ => True)) (h46 : RuleO 46 s46 (fun _ => True)) {w : World} {ok : Nat → Prop} {e : S24} {A : Option Addr} {c : Nat} (hd : dom e) (hf : Kd.FK k24 w ok e (cel e A c)) (h1 : s44 e = none) (h2 : s45 e = none) (h3 : s46 e = none) {y : S24} (h8 : e.f0 = 8) (h5 : e.f5 = [y]) (hr1 : y.f0 ≠ 1) :
    Calls Try.prog 21 #[.agg #[.int .i64 e.f0, .int .i64 e.f1, .int .i64 e.f2, .int .i64 e.f3, .string e.f4, .slice A e.f5.length c]] w (Gives2 w ok (ofPair (biX e))) := by
  obtain ⟨ad, A0, c0, rfl, _⟩ := elem0 hf h5
  have hu24 := Try.underlying24
  have S0 := Asd.mk (Hs.start hf)
  clear hf
  have k1 : (e.f0 == 8) = true := beq_iff_eq.mpr h8
  have k2 : ((e.f5.length : Int) == 1) = true := by rw [h5]; rfl
  have k3 : (0 < e.f5.length) = True := eq_true (by rw [h5]; simp)
  have k4 : (y.f0 == 1) = false := beq_eq_false_iff_ne.mpr hr1
  have k5 : decide (0 < e.f5.length) = true := decide_eq_true (by rw [h5]; simp)
  have k6 : ((0 : Int) < (e.f5.length : Int)) = True := eq_true (by rw [h5]; simp)
  have H5 := Asd.mk h5
  clear h8 hr1 h5
  have HM := Asd.mk hm
  clear hm
  go_enter Try.func21, Try.ntmps21
  go_upto_region 10 with (first
    | ((with_reducible refine gate_dst (N := 1) rfl ?_); (try (refine gate_guard (by rfl) ?_; dsimp only)); refine box_event ?hg (N := 1) ?hd (cs := #[.int .i64 e.f0, .int .i64 e.f1, .int .i64 e.f2, .int .i64 e.f3, .string e.f4, .slice (some ad) e.f5.length c]) (t := 24) ?hr ?_; (case hd => rfl); (case hg => rfl); (case hr => first | (go_simp; done) | (go_simp; rfl)); intro g1 hg wS1 hbox hb; have S1 := Asd.mk (S0.out.box hg hbox hb); clear hb hbox hg)
    | ((with_reducible refine gate_dst (N := 2) rfl ?_); (try (refine gate_guard (by rfl) ?_; dsimp only)); refine box_event ?hg (N := 2) ?hd (cs := #[.int .i64 0, .int .i64 0, .int .i64 0, .int .i64 0, .string (⟨#[]⟩ : ByteArray), .slice none 0 0]) (t := 24) ?hr ?_; (case hd => rfl); (case hg => rfl); (case hr => first | (go_simp; done) | (go_simp; rfl)); intro g2 hg wS2 hbox hb; have S2 := Asd.mk (S1.out.box hg hbox hb); clear hb hbox hg; obtain ⟨ap0, ap1, ap2, ap3, ap4, ap5, bp0, bp1, bp2, bp3, bp4, bp5⟩ := S2.out.cells6 1 rfl)
    | ((with_reducible refine gate_callee (f := 44) rfl ?_); refine goesL_ (some 12) rfl rfl Try.func44 (by kernel_rfl) rfl #[.agg #[.int .i64 e.f0, .int .i64 e.f1, .int .i64 e.f2, .int .i64 e.f3, .string e.f4, .slice (some ad) e.f5.length c]] rfl (by (try simp only [List.map_toArray, List.map_cons, List.map_nil]); first | done | rfl) ?_; refine (h44 _ _ e (some ad) c hd (S2.out.FK 0 rfl)).mono ?_; intro x wr hx; rw [h1] at hx; obtain ⟨q1, A1, c1, rfl, hr, hb⟩ := gives2_none hx; refine ⟨_, rfl, ?_⟩; have T1 := Asd.mk (S2.out.call hb hr); clear hb hr hx)
    | ((with_reducible refine gate_dst (N := 4) rfl ?_); (try (refine gate_guard (by rfl) ?_; dsimp only)); refine box_event ?hg (N := 4) ?hd (cs := #[.int .i64 0, .int .i64 0, .int .i64 0, .int .i64 0, .string (⟨#[]⟩ : ByteArray), .slice none 0 0]) (t := 24) ?hr ?_; (case hd => rfl); (case hg => rfl); (case hr => first | (go_simp; done) | (go_simp; rfl)); intro g4 hg wU1 hbox hb; have U1 := Asd.mk (T1.out.box hg hbox hb); clear hb hbox hg; obtain ⟨au00, au01, au02, au03, au04, au05, bu00, bu01, bu02, bu03, bu04, bu05⟩ := U1.out.cells6 0 rfl; obtain ⟨av00, av01, av02, av03, av04, av05, bv00, bv01, bv02, bv03, bv04, bv05⟩ := U1.out.cells6 1 rfl; obtain ⟨aw00, aw01, aw02, aw03, aw04, aw05, bw00, bw01, bw02, bw03, bw04, bw05⟩ := U1.out.cells6 2 rfl; obtain ⟨n0a, n0b⟩ := U1.out.ne 0 1 rfl rfl (by decide); obtain ⟨n0c, n0d⟩ := U1.out.ne 0 2 rfl rfl (by decide))
    | ((with_reducible refine gate_callee (f := 45) rfl ?_); refine goesL_ (some 19) rfl rfl Try.func45 (by kernel_rfl) rfl #[.agg #[.int .i64 e.f0, .int .i64 e.f1, .int .i64 e.f2, .int .i64 e.f3, .string e.f4, .slice (some ad) e.f5.length c]] rfl (by (try simp only [List.map_toArray, List.map_cons, List.map_nil]); first | done | rfl) ?_; have Q1 := Asd.mk (U1.out.put6 0 rfl (v0 := .int .i64 q1.f0) (v1 := .int .i64 q1.f1) (v2 := .int .i64 q1.f2) (v3 := .int .i64 q1.f3) (v4 := .string q1.f4) (v5 := .slice A1 q1.f5.length c1)); refine (h45 _ _ e (some ad) c trivial (Q1.out.FK 1 rfl)).mono ?_; intro x wr hx; rw [h2] at hx; obtain ⟨q2, A2, c2, rfl, hr, hb⟩ := gives2_none hx; refine ⟨_, rfl, ?_⟩; have T2 := Asd.mk (Q1.out.call hb hr); clear hb hr hx)
    | ((with_reducible refine gate_dst (N := 6) rfl ?_); (try (refine gate_guard (by rfl) ?_; dsimp only)); refine box_event ?hg (N := 6) ?hd (cs := #[.int .i64 0, .int .i64 0, .int .i64 0, .int .i64 0, .string (⟨#[]⟩ : ByteArray), .slice none 0 0]) (t := 24) ?hr ?_; (case hd => rfl); (case hg => rfl); (case hr => first | (go_simp; done) | (go_simp; rfl)); intro g6 hg wU2 hbox hb; have U2 := Asd.mk (T2.out.box hg hbox hb); clear hb hbox hg; obtain ⟨au10, au11, au12, au13, au14, au15, bu10, bu11, bu12, bu13, bu14, bu15⟩ := U2.out.cells6 0 rfl; obtain ⟨av10, av11, av12, av13, av14, av15, bv10, bv11, bv12, bv13, bv14, bv15⟩ := U2.out.cells6 2 rfl; obtain ⟨aw10, aw11, aw12, aw13, aw14, aw15, bw10, bw11, bw12, bw13, bw14, bw15⟩ := U2.out.cells6 3 rfl; obtain ⟨n1a, n1b⟩ := U2.out.ne 0 2 rfl rfl (by decide); obtain ⟨n1c, n1d⟩ := U2.out.ne 0 3 rfl rfl (by decide))
    | ((with_reducible refine gate_callee (f := 46) rfl ?_); refine goesL_ (some 26) rfl rfl Try.func46 (by kernel_rfl) rfl #[.agg #[.int .i64 e.f0, .int .i64 e.f1, .int .i64 e.f2, .int .i64 e.f3, .string e.f4, .slice (some ad) e.f5.length c]] rfl (by (try simp only [List.map_toArray, List.map_cons, List.map_nil]); first | done | rfl) ?_; have Q2 := Asd.mk (U2.out.put6 0 rfl (v0 := .int .i64 q2.f0) (v1 := .int .i64 q2.f1) (v2 := .int .i64 q2.f2) (v3 := .int .i64 q2.f3) (v4 := .string q2.f4) (v5 := .slice A2 q2.f5.length c2)); refine (h46 _ _ e (some ad) c trivial (Q2.out.FK 2 rfl)).mono ?_; intro x wr hx; rw [h3] at hx; obtain ⟨q3, A3, c3, rfl, hr, hb⟩ := gives2_none hx; refine ⟨_, rfl, ?_⟩; have T3 := Asd.mk (Q2.out.call hb hr); clear hb hr hx)
    | ((with_reducible refine gate_dst (N := 8) rfl ?_); (try (refine gate_guard (by rfl) ?_; dsimp only)); refine box_event ?hg (N := 8) ?hd (cs := #[.int .i64 0, .int .i64 0, .int .i64 0, .int .i64 0, .string (⟨#[]⟩ : ByteArray), .slice none 0 0]) (t := 24) ?hr ?_; (case hd => rfl); (case hg => rfl); (case hr => first | (go_simp; done) | (go_simp; rfl)); intro g8 hg wU3 hbox hb; have U3 := Asd.mk (T3.out.box hg hbox hb); clear hb hbox hg; obtain ⟨au20, au21, au22, au23, au24, au25, bu20, bu21, bu22, bu23, bu24, bu25⟩ := U3.out.cells6 0 rfl; obtain ⟨av20, av21, av22, av23, av24, av25, bv20, bv21, bv22, bv23, bv24, bv25⟩ := U3.out.cells6 3 rfl; obtain ⟨aw20, aw21, aw22, aw23, aw24, aw25, bw20, bw21, bw22, bw23, bw24, bw25⟩ := U3.out.cells6 4 rfl; obtain ⟨n2a, n2b⟩ := U3.out.ne 0 3 rfl rfl (by decide); obtain ⟨n2c, n2d⟩ := U3.out.ne 0 4 rfl rfl (by decide)))
  have S9 := Asd.mk (U3.out.put6 0 rfl (v0 := .int .i64 q3.f0) (v1 := .int .i64 q3.f1) (v2 := .int .i64 q3.f2) (v3 := .int .i64 q3.f3) (v4 := .string q3.f4) (v5 := .slice A3 q3.f5.length c3))
  generalize ((((((wU3.setCell ⟨g8, 0, none⟩ (.int .i64 q3.f0)).setCell ⟨g8, 1, none⟩ (.int .i64 q3.f1)).setCell ⟨g8, 2, none⟩ (.int .i64 q3.f2)).setCell ⟨g8, 3, none⟩ (.int .i64 q3.f3)).setCell ⟨g8, 4, none⟩ (.string q3.f4)).setCell ⟨g8, 5, none⟩ (.slice A3 q3.f5.length c3)) = W9 at S9 ⊢
  clear S0 S1 S2 T1 U1 T2 U2 T3 U3 Q1 Q2
  obtain ⟨ag0, ag1, ag2, ag3, ag4, ag5, bg0, bg1, bg2, bg3, bg4, bg5⟩ := S9.out.cells6 3 rfl
  obtain ⟨ah0, ah1, ah2, ah3, ah4, ah5, bh0, bh1, bh2, bh3, bh4, bh5⟩ := S9.out.cells6 4 rfl
  obtain ⟨ad', A', c', eA, x0, x1, x2, x3, x4, x5, hin, hxK⟩ := elem0 (S9.out.FK 3 rfl) H5.out
  injection eA with eA
  subst eA
  have HX := Asd.mk hxK
  clear hxK hin
  go_wp2_with ((with_reducible refine gate_callee (f := 47) rfl ?_); refine goesL_ (some 63) rfl rfl Try.func47 (by kernel_rfl) rfl #[.agg #[.int .i64 e.f0, .int .i64 e.f1, .int .i64 e.f2, .int .i64 e.f3, .string e.f4, .slice (some ad) e.f5.length c], .slice (some ⟨W9.heap.size, 0, none⟩) 9 9] rfl (by (try simp only [List.map_toArray, List.map_cons, List.map_nil]); first | done | rfl) ?_; refine (other_call HM.out (S9.out.FK 3 rfl)).mono ?_; rintro x wr ⟨r, A9, c9, rfl, hr, hr2, hb⟩; refine ⟨_, rfl, ?_⟩; have S10 := Asd.mk ((S9.out.step (wAl (Below.refl _ _) _)).call hb (Kd.FK_mono hr fun _ hk => hk)); have HR2 := Asd.mk hr2; clear hb hr hr2; obtain ⟨az0, az1, az2, az3, az4, az5, bz0, bz1, bz2, bz3, bz4, bz5⟩ := S10.out.cells6 3 rfl)
  have S11 := S10.out.put6 3 rfl (v0 := .int .i64 r.f0) (v1 := .int .i64 r.f1) (v2 := .int .i64 r.f2) (v3 := .int .i64 r.f3) (v4 := .string r.f4) (v5 := .slice A9 r.f5.length c9)
  refine bodyPost_ret (results_ct rfl _ _ g2 24 #[.int .i64 r.f0, .int .i64 r.f1, .int .i64 r.f2, .int .i64 r.f3, .string r.f4, .slice A9 r.f5.length c9] (0, 0) _ rfl (S11.blk 3 rfl) Try.underlying24 rfl (by kernel_rfl)) rfl ?_
  exact ⟨r, A9, c9, by first | rfl | simp [*], S11.out 0 rfl, HR2.out, S11.below⟩
end Go.Ref
end
section
open Go Go.Ref Go.Proofs Go.RowKit Go.Proofs.Ytgbpdfkobelbcaa.PSimpFolds Go.Proofs.YtgbpdfkobelbcaaW.PrintWords Go.Proofs.YtgbpdfkobelbcaaW.PrintLast Go.Proofs.YtgbpdfkobelbcaaW.PrintMore
set_option linter.unusedVariables false
set_option linter.unusedSimpArgs false
namespace Go.Ref
section
variable {P : Program} {ops : Array Oper} {Q : Exit → Act → World → Prop}
theorem goesV_ {rest : List Oper} {oi : Oper} {a : Act} {w : World} (N : Option Tmp) (hd : oi.dst = N) (hg : oi.guard = none) {c : Operand} {f : FuncId} {fn : Func} {xs : Array Operand} {ts : Array TypeId} (hf : P.funcs[f]? = some fn) (hname : (fn.name == "runtime.NumGoroutine") = false) (hb : fn.body.isSome = true) (args : Array Value)
    (hop : oi.op = .call { callee := .value c, args := xs, argTypes := ts }) (hc : a.eval c = .func (.func f) #[] #[]) (hargs : xs.map a.eval = args)
    (h : Calls P f args w fun e w' => ∃ v, e = .returned v ∧ wpList P ops Q rest (a.put N v) w') : wpList P ops Q (oi :: rest) a w := by
  refine wpList_plain hg fun K hK => ?_
  have he := enters_ hf hname hb args w
  have hrun : (execOp a.eval oi).run P w = .ok (.enter f args) w := by
    unfold execOp
    simp [hop, resolve, Deferred.ofValue, invoke, hc, hargs, he]
  unfold Oper.wp
  rw [hrun, Oper.upon_enter]
  refine h.mono fun e w'' hh => ?_
  obtain ⟨v, rfl, hk⟩ := hh
  subst hd
  exact hK _ _ hk
end
theorem info24 : (Try.prog.info? 24).map (fun i => (i.zero, i.size, i.bytes)) = some (some (.agg #[(.int .i64 0), (.int .i64 0), (.int .i64 0), (.int .i64 0), (.string ⟨#[]⟩), (.slice none 0 0)]), 6, 72) := by kernel_rfl
theorem N_put6 {v : Value} {W : World} {base g : Nat} {ok : Nat → Prop} {xs : List S24} (h : Kd.N k24 24 W base ok v xs) (hok : ∀ k, ok k → k ≠ g) {v0 v1 v2 v3 v4 v5 : Value} :
    Kd.N k24 24 ((((((W.setCell ⟨g, 0, none⟩ v0).setCell ⟨g, 1, none⟩ v1).setCell ⟨g, 2, none⟩ v2).setCell ⟨g, 3, none⟩ v3).setCell ⟨g, 4, none⟩ v4).setCell ⟨g, 5, none⟩ v5) base ok v xs :=
  Kd.N_far (Kd.N_far (Kd.N_far (Kd.N_far (Kd.N_far (Kd.N_far h hok v0) hok v1) hok v2) hok v3) hok v4) hok v5
theorem elemI {W : World} {ok : Nat → Prop} {l : List S24} {A : Option Addr} {x : S24} {i : Nat} (h : Kd.F k24 W ok A l.length l) (hi : l[i]? = some x) : ∃ ad A' c', A = some ad ∧ W.cell? (ad.add (i * 6)) = some (.int .i64 x.f0) ∧ W.cell? ⟨(ad.add (i * 6)).block, (ad.add (i * 6)).off + 1, none⟩ = some (.int .i64 x.f1) ∧ W.cell? ⟨(ad.add (i * 6)).block, (ad.add (i * 6)).off + 2, none⟩ = some (.int .i64 x.f2) ∧ W.cell? ⟨(ad.add (i * 6)).block, (ad.add (i * 6)).off + 3, none⟩ = some (.int .i64 x.f3) ∧ W.cell? ⟨(ad.add (i * 6)).block, (ad.add (i * 6)).off + 4, none⟩ = some (.string x.f4) ∧ W.cell? ⟨(ad.add (i * 6)).block, (ad.add (i * 6)).off + 5, none⟩ = some (.slice A' x.f5.length c') ∧ Kd.FK k24 W ok x (cel x A' c') := by
  have hlt := (List.getElem?_eq_some_iff.1 hi).1
  obtain ⟨ad, cs, rfl, _, hK, hcc, hin⟩ := Kd.F_get h z24 (i : Int) (by omega) (by omega)
  obtain ⟨A', c', rfl, l', g'⟩ := k24_openF hK
  have hx : l.getD (i : Int).toNat z24 = x := by rw [Int.toNat_natCast, List.getD_eq_getElem?_getD, hi]; rfl
  rw [hx] at hK hcc
  rw [Int.toNat_natCast] at hcc
  have h0 := hcc 0 _ rfl
  have h1 := hcc 1 _ rfl
  have h2 := hcc 2 _ rfl
  have h3 := hcc 3 _ rfl
  have h4 := hcc 4 _ rfl
  have h5' := hcc 5 _ rfl
  rw [add_field _ _ 1 (by omega)] at h1
  rw [add_field _ _ 2 (by omega)] at h2
  rw [add_field _ _ 3 (by omega)] at h3
  rw [add_field _ _ 4 (by omega)] at h4
  rw [add_field _ _ 5 (by omega)] at h5'
  rw [Nat.add_zero] at h0
  exact ⟨ad, A', c', rfl, h0, h1, h2, h3, h4, h5', hK⟩
def Gives3 (w : World) (ok : Nat → Prop) (r : S24) (x : Ending) (w' : World) : Prop :=
  ∃ A c, x = .returned (.agg #[.int .i64 r.f0, .int .i64 r.f1, .int .i64 r.f2, .int .i64 r.f3, .string r.f4, .slice A r.f5.length c]) ∧ Kd.FK k24 w' (fun k => ok k ∨ w.heap.size ≤ k) r (cel r A c) ∧ Below w.heap.size w w'
def FunE (f : FuncId) (g : S24 → S24) (dom : S24 → Prop) : Prop := ∀ (w : World) (ok : Nat → Prop) (e : S24) (A : Option Addr) (c : Nat), dom e → Kd.FK k24 w ok e (cel e A c) →
  Calls Try.prog f #[.agg #[.int .i64 e.f0, .int .i64 e.f1, .int .i64 e.f2, .int .i64 e.f3, .string e.f4, .slice A e.f5.length c]] w (Gives3 w ok (g e))
def okS (ok : Nat → Prop) (B k : Nat) : Prop := (ok k ∧ k < B) ∨ B ≤ k
set_option maxHeartbeats 2000000 in
set_option maxRecDepth 100000 in
theorem list_calls {g : S24 → S24} {dom : S24 → Prop} (h7 : FunE 7 g dom) {w : World} {ok : Nat → Prop} {l : List S24} {A : Option Addr} {c : Nat} (hd : ∀ x ∈ l, dom x) (hl : l.length ≤ 1000000) (hF : Kd.F k24 w ok A l.length l) :
    Calls Try.prog 20 #[.slice A l.length c, .func (.func 7) #[] #[]] w fun x w' => ∃ A' c', x = .returned (.slice A' (l.map g).length c') ∧ (l.map g).length ≤ c' ∧ Kd.F k24 w' (fun k => ok k ∨ w.heap.size ≤ k) A' (l.map g).length (l.map g) ∧ Below w.heap.size w w' := by
  have HF := Asd.mk (Kd.F_bound hF)
  have HL := Asd.mk hl
  have HD := Asd.mk hd
  clear hF hl hd
  go_enter Try.func20, Try.ntmps20
  go_wp2
  go_loopg [5, 10] l.length (fun kq v5 v10 w' => ∃ (j : Int), v10 = .int .i64 j ∧ Asd (0 ≤ j ∧ j.toNat + kq = l.length) ∧ Asd (Kd.N k24 24 w' w.heap.size (okS ok w.heap.size) v5 ((l.take j.toNat).map g)) ∧ Asd (Below w.heap.size w w'))
  case atStart => exact ⟨0, rfl, ⟨by simp⟩, ⟨Kd.N_nil _ _ _ _ _⟩, ⟨Below.refl _ _⟩⟩
  case round =>
    obtain ⟨j, rfl, HK, HN, HB⟩ := hrel
    cases gk with
    | zero =>
      have c0 : decide (j < (l.length : Int)) = false := decide_eq_false (by have := HK.out; omega)
      obtain ⟨A5, c5, e5⟩ := Kd.N_slice HN.out
      subst e5
      go_wp2
      go_ret
      have hj : j.toNat = l.length := by have := HK.out; omega
      have hN := HN.out
      rw [hj, List.take_length] at hN
      have hr := Kd.N_reads' hN
      refine ⟨A5, c5, ?_, ?_, Kd.F_mono (Kd.N_F hN) (fun k hk => ?_), HB.out⟩
      · rw [hj, List.take_length]; rfl
      · have := hr.2.1; omega
      · rcases hk with hk | hk
        · exact .inl hk.1
        · exact .inr hk
    | succ k1 =>
      have hlt : j.toNat < l.length := by have := HK.out; omega
      obtain ⟨x, hx⟩ : ∃ x, l[j.toNat]? = some x := ⟨_, List.getElem?_eq_getElem hlt⟩
      have hFr := Kd.F_step HF.out (W1 := wr) (fun k hk _ => HB.out.block k hk.2)
      obtain ⟨ad, A', c', rfl, x0, x1, x2, x3, x4, x5, hxK⟩ := elemI hFr hx
      have HX := Asd.mk hxK
      have HXI := Asd.mk hx
      have c0 : decide (j < (l.length : Int)) = true := decide_eq_true (by have := HK.out; omega)
      have p1 : (0 ≤ j) = True := eq_true HK.out.1
      have q1 : (j < (l.length : Int)) = True := eq_true (by have := HK.out; omega)
      have HQ := Asd.mk (show j < (l.length : Int) by have := HK.out; omega)
      clear hFr hxK hx hlt
      have S0 := Asd.mk (show Hs w wr ok [] [] from ⟨HB.out, (fun _ h => by simp at h), List.nodup_nil, fun x hx => by simp at hx⟩)
      go_wp2_with (first
        | ((with_reducible refine gate_dst (N := 7) rfl ?_); (try (refine gate_guard (by rfl) ?_; dsimp only)); refine box_event ?hg (N := 7) ?hd (cs := #[.int .i64 0, .int .i64 0, .int .i64 0, .int .i64 0, .string (⟨#[]⟩ : ByteArray), .slice none 0 0]) (t := 24) ?hr ?_; (case hd => rfl); (case hg => rfl); (case hr => first | (go_simp; done) | (go_simp; rfl)); intro g7 hg w7 hbox hb; have S7 := Asd.mk (S0.out.box hg hbox hb); have N7 := Asd.mk (Kd.N_below (Kd.N_bound HN.out) hb); have G7 := Asd.mk hg; clear hb hbox hg; obtain ⟨a0, a1, a2, a3, a4, a5, b0, b1, b2, b3, b4, b5⟩ := S7.out.cells6 0 rfl)
        | ((with_reducible refine gate_dst (N := 17) rfl ?_); refine goesV_ (some 17) rfl rfl Try.func7 (by kernel_rfl) rfl #[.agg #[.int .i64 x.f0, .int .i64 x.f1, .int .i64 x.f2, .int .i64 x.f3, .string x.f4, .slice A' x.f5.length c']] rfl rfl (by (try simp only [List.map_toArray, List.map_cons, List.map_nil]); first | done | rfl) ?_; have S8 := Asd.mk (S7.out.put6 0 rfl (v0 := .int .i64 x.f0) (v1 := .int .i64 x.f1) (v2 := .int .i64 x.f2) (v3 := .int .i64 x.f3) (v4 := .string x.f4) (v5 := .slice A' x.f5.length c')); have N8 := Asd.mk (N_put6 N7.out (g := g7) (fun k hk => by have := hk.2; have := G7.out; omega) (v0 := .int .i64 x.f0) (v1 := .int .i64 x.f1) (v2 := .int .i64 x.f2) (v3 := .int .i64 x.f3) (v4 := .string x.f4) (v5 := .slice A' x.f5.length c')); refine (h7 _ (fun k => ok k ∧ k < w.heap.size) x A' c' (HD.out x (List.mem_of_getElem? HXI.out)) (Kd.FK_step HX.out (fun k hk _ => (S8.out.below.block k hk.2).trans (HB.out.block k hk.2).symm))).mono ?_; rintro xx w9 ⟨A9, c9, rfl, hr, hb⟩; refine ⟨_, rfl, ?_⟩; have S9 := Asd.mk (S8.out.step hb); have N9 := Asd.mk (Kd.N_below N8.out hb); have R9 := Asd.mk hr; clear hr hb)
        | ((with_reducible refine gate_builtin (b := .append) (xs := #[.tmp 14, .tmp 18]) rfl ?_); at_builtin; refine Kd.N_append k24 (w0 := w) w.heap.size rfl (.tmp 14) (.tmp 18) 22 24 (.agg #[(.int .i64 0), (.int .i64 0), (.int .i64 0), (.int .i64 0), (.string ⟨#[]⟩), (.slice none 0 0)]) 72 rfl Try.underlying22 info24 rfl (by decide) (by omega) u5 ((l.take j.toNat).map g) (g x) (cel (g x) A9 c9) (okS ok w.heap.size) _ rfl rfl R9.out ?aK ?aF ?aO ?aB ?aS ?aL ?_; (case aK => exact fun k hk => by rcases hk with hk | hk; exact ⟨.inl hk, fun e => by have := Kd.N_base HN.out k e.symm; have := hk.2; omega⟩; exact ⟨.inr (Nat.le_trans S8.out.below.size hk), fun e => by have := Kd.N_lt HN.out k e.symm; have := S8.out.lt (List.mem_of_getElem? (i := 0) rfl); have := G7.out; omega⟩); (case aF => exact fun k hk => .inr (Nat.le_trans S9.out.below.size hk)); (case aO => exact Kd.N_mono N9.out (fun k hk => hk.1)); (case aB => exact S9.out.below); (case aS => exact S9.out.below.size); (case aL => rw [List.length_map, List.length_take]; have := HL.out; omega); intro v1 w10 ho hb hg hat; have N10 := Asd.mk ho; have B10 := Asd.mk hb; clear ho hb hg hat))
      go_roundg k1
      case measure => omega
      case rel =>
        refine ⟨j + 1, ?_, ⟨?_⟩, ⟨?_⟩, B10⟩
        · have e0 : wrap64 (j + 1) = j + 1 := by have := HQ.out; have := HL.out; have := HK.out; unfold wrap64; omega
          rw [e0]
        · have := HK.out; omega
        · have e1 : l.take (j + 1).toNat = l.take j.toNat ++ [x] := by
            rw [show (j + 1).toNat = j.toNat + 1 by have := HK.out; omega, List.take_add_one, HXI.out]; rfl
          rw [e1, List.map_append]
          exact N10.out
end Go.Ref
end
section
open Go Go.Ref Go.Proofs Go.RowKit Go.Proofs.Ytgbpdfkobelbcaa.PSimpFolds Go.Proofs.YtgbpdfkobelbcaaW.PrintWords Go.Proofs.YtgbpdfkobelbcaaW.PrintLast Go.Proofs.YtgbpdfkobelbcaaW.PrintMore
set_option linter.unusedVariables false
set_option linter.unusedSimpArgs false
namespace Go.Ref
def foldL (once : S24 → Option S24) : Nat → S24 → S24
  | 0, x => x
  | k + 1, x => match once x with | none => x | some y => foldL once k y
theorem Hs.drop {w W : World} {ok : Nat → Prop} {b : Nat × List Value} {bx : List (Nat × List Value)} {ex : List (S24 × List Value)} (h : Hs w W ok (b :: bx) ex) : Hs w W ok bx ex :=
  ⟨h.below, fun b' hb => h.boxes b' (List.mem_cons_of_mem _ hb), by have := h.nd; rw [List.map_cons, List.nodup_cons] at this; exact this.2, fun x hx => Kd.FK_mono (h.ex x hx) (fun k hk => ⟨hk.1, fun b' hb => hk.2 b' (List.mem_cons_of_mem _ hb)⟩)⟩
theorem Hs.only {w W : World} {ok : Nat → Prop} {bx : List (Nat × List Value)} {ex : List (S24 × List Value)} (h : Hs w W ok bx ex) (n : Nat) {x : S24} {cs : List Value} (hn : ex[n]? = some (x, cs)) : Hs w W ok bx [(x, cs)] :=
  ⟨h.below, h.boxes, h.nd, fun y hy => by rw [List.mem_singleton.1 hy]; exact h.FK n hn⟩
structure Shr (once : S24 → Option S24) (m : S24 → Nat) (P : S24 → Prop) : Prop where
  less : ∀ x y, P x → once x = some y → m y < m x
  keep : ∀ x y, P x → once x = some y → P y
theorem Shr.rest {once : S24 → Option S24} {x : S24} (ho : once x = none) : ∀ k, foldL once k x = x
  | 0 => rfl
  | k + 1 => by simp [foldL, ho]
theorem Shr.two {once : S24 → Option S24} {m : S24 → Nat} {P : S24 → Prop} (h : Shr once m P) : ∀ (n k : Nat) (x : S24), P x → m x ≤ n → m x ≤ k → foldL once n x = foldL once k x := by
  intro n
  induction n with
  | zero =>
    intro k x hx h0 _
    cases ho : once x with
    | none => rw [Shr.rest ho, Shr.rest ho]
    | some y => have := h.less x y hx ho; omega
  | succ n ih =>
    intro k x hx hn hk
    cases ho : once x with
    | none => rw [Shr.rest ho, Shr.rest ho]
    | some y =>
      have h1 := h.less x y hx ho
      obtain ⟨k', rfl⟩ : ∃ k', k = k' + 1 := ⟨k - 1, by omega⟩
      show (match once x with | none => x | some y => foldL once n y) = (match once x with | none => x | some y => foldL once k' y)
      rw [ho]
      exact ih k' y (h.keep x y hx ho) (by omega) (by omega)
theorem Shr.stable {once : S24 → Option S24} {m : S24 → Nat} {P : S24 → Prop} (h : Shr once m P) (n : Nat) (x : S24) (hx : P x) (hn : m x ≤ n) : foldL once n x = foldL once (m x) x := h.two n (m x) x hx hn (Nat.le_refl _)
theorem Shr.step {once : S24 → Option S24} {m : S24 → Nat} {P : S24 → Prop} (h : Shr once m P) {x y : S24} (hx : P x) (ho : once x = some y) : foldL once (m x) x = foldL once (m y) y := by
  have h1 := h.less x y hx ho
  obtain ⟨k, hk⟩ : ∃ k, m x = k + 1 := ⟨m x - 1, by omega⟩
  rw [hk]
  show (match once x with | none => x | some y => foldL once k y) = _
  rw [ho]
  exact h.stable k y (h.keep x y hx ho) (by omega)
theorem Shr.done {once : S24 → Option S24} {m : S24 → Nat} {x : S24} (ho : once x = none) : foldL once (m x) x = x := by
  cases m x with
  | zero => rfl
  | succ k => simp [foldL, ho]
set_option maxHeartbeats 2000000 in
set_option maxRecDepth 100000 in
theorem fold7_calls {once : S24 → Option S24} {m : S24 → Nat} {P dom : S24 → Prop} {g : S24 → S24} (h21 : RuleO 21 once P) (hs : Shr once m P) (h7 : FunE 7 g dom) {w : World} {ok : Nat → Prop} {e : S24} {A : Option Addr} {c : Nat} (hd : ∀ x ∈ e.f5, dom x) (hl : e.f5.length ≤ 1000000) (hP : P { e with f5 := e.f5.map g }) (hf : Kd.FK k24 w ok e (cel e A c)) :
    Calls Try.prog 7 #[.agg #[.int .i64 e.f0, .int .i64 e.f1, .int .i64 e.f2, .int .i64 e.f3, .string e.f4, .slice A e.f5.length c]] w (Gives3 w ok (foldL once (m { e with f5 := e.f5.map g }) { e with f5 := e.f5.map g })) := by
  have hu24 := Try.underlying24
  have S0 := Asd.mk (Hs.start hf)
  have HD := Asd.mk hd
  have HL := Asd.mk hl
  have HP := Asd.mk hP
  clear hf hd hl hP
  go_enter Try.func7, Try.ntmps7
  go_wp2_with (first
    | ((with_reducible refine gate_dst (N := 1) rfl ?_); (try (refine gate_guard (by rfl) ?_; dsimp only)); refine box_event ?hg (N := 1) ?hd (cs := #[.int .i64 e.f0, .int .i64 e.f1, .int .i64 e.f2, .int .i64 e.f3, .string e.f4, .slice A e.f5.length c]) (t := 24) ?hr ?_; (case hd => rfl); (case hg => rfl); (case hr => first | (go_simp; done) | (go_simp; rfl)); intro g1 hg wS1 hbox hb; have S1 := Asd.mk (S0.out.box hg hbox hb); clear hb hbox hg)
    | ((with_reducible refine gate_dst (N := 2) rfl ?_); (try (refine gate_guard (by rfl) ?_; dsimp only)); refine box_event ?hg (N := 2) ?hd (cs := #[.int .i64 0, .int .i64 0, .int .i64 0, .int .i64 0, .string (⟨#[]⟩ : ByteArray), .slice none 0 0]) (t := 24) ?hr ?_; (case hd => rfl); (case hg => rfl); (case hr => first | (go_simp; done) | (go_simp; rfl)); intro g2 hg wS2 hbox hb; have S2 := Asd.mk (S1.out.box hg hbox hb); clear hb hbox hg; obtain ⟨ap0, ap1, ap2, ap3, ap4, ap5, bp0, bp1, bp2, bp3, bp4, bp5⟩ := S2.out.cells6 1 rfl)
    | ((with_reducible refine gate_callee (f := 20) rfl ?_); refine goesL_ (some 7) rfl rfl Try.func20 (by kernel_rfl) rfl #[.slice A e.f5.length c, .func (.func 7) #[] #[]] rfl (by (try simp only [List.map_toArray, List.map_cons, List.map_nil]); first | done | rfl) ?_; have hF := k24_openF (S2.out.FK 0 rfl); obtain ⟨A0, c0, hcs, hl0, hF⟩ := hF; have hA0 : A0 = A := (by have := congrArg (fun l => l[5]?) hcs; simp only [cel] at this; injection this with this; injection this with this; exact this.symm); subst hA0; refine (list_calls h7 HD.out HL.out hF).mono ?_; rintro xx w3 ⟨A1, c1, rfl, hl1, hr, hb⟩; refine ⟨_, rfl, ?_⟩; have S3 := Asd.mk (S2.out.call hb (r := { e with f5 := e.f5.map g }) (cs := cel { e with f5 := e.f5.map g } A1 c1) (k24_mkF _ _ _ hl1 hr)); clear hb hr hl1 hF hcs hl0; obtain ⟨aq0, aq1, aq2, aq3, aq4, aq5, bq0, bq1, bq2, bq3, bq4, bq5⟩ := S3.out.cells6 1 rfl))
  have S4 := Asd.mk ((S3.out.put 1 rfl 5 (.slice A1 (e.f5.map g).length c1)).only 0 rfl)
  go_loopg [] (m { e with f5 := e.f5.map g }) (fun kq w' => ∃ (x : S24) (A' : Option Addr) (c' : Nat), Asd (Hs w w' ok [(g2, [.int .i64 0, .int .i64 0, .int .i64 0, .int .i64 0, .string (⟨#[]⟩ : ByteArray), .slice none 0 0]), (g1, cel x A' c')] [(x, cel x A' c')]) ∧ Asd (P x ∧ m x ≤ kq ∧ foldL once (m x) x = foldL once (m { e with f5 := e.f5.map g }) { e with f5 := e.f5.map g }))
  case atStart => exact ⟨{ e with f5 := e.f5.map g }, A1, c1, ⟨by rw [← show (e.f5.map g).length = e.f5.length from List.length_map ..]; exact S4.out⟩, ⟨HP.out, Nat.le_refl _, rfl⟩⟩
  case round =>
    obtain ⟨x, A', c', S5, HK⟩ := hrel
    clear S0 S1 S2 S3 S4 HP
    obtain ⟨ar0, ar1, ar2, ar3, ar4, ar5, br0, br1, br2, br3, br4, br5⟩ := S5.out.cells6 1 rfl
    cases ho : once x with
    | none =>
      go_wp2_with (first
        | ((with_reducible refine gate_callee (f := 21) rfl ?_); refine goesL_ (some 11) rfl rfl Try.func21 (by kernel_rfl) rfl #[.agg #[.int .i64 x.f0, .int .i64 x.f1, .int .i64 x.f2, .int .i64 x.f3, .string x.f4, .slice A' x.f5.length c']] rfl (by (try simp only [List.map_toArray, List.map_cons, List.map_nil]); first | done | rfl) ?_; refine (h21 _ _ x A' c' HK.out.1 (S5.out.FK 0 rfl)).mono ?_; intro xx w6 hx; rw [ho] at hx; obtain ⟨q, A6, c6, rfl, hr, hb⟩ := gives2_none hx; refine ⟨_, rfl, ?_⟩; have S6 := Asd.mk (S5.out.call hb hr); clear hb hr hx)
        | ((with_reducible refine gate_dst (N := 3) rfl ?_); (try (refine gate_guard (by rfl) ?_; dsimp only)); refine box_event ?hg (N := 3) ?hd (cs := #[.int .i64 0, .int .i64 0, .int .i64 0, .int .i64 0, .string (⟨#[]⟩ : ByteArray), .slice none 0 0]) (t := 24) ?hr ?_; (case hd => rfl); (case hg => rfl); (case hr => first | (go_simp; done) | (go_simp; rfl)); intro g3 hg wS7 hbox hb; have S7 := Asd.mk (S6.out.box hg hbox hb); clear hb hbox hg; obtain ⟨as0, as1, as2, as3, as4, as5, bs0, bs1, bs2, bs3, bs4, bs5⟩ := S7.out.cells6 0 rfl; obtain ⟨at0, at1, at2, at3, at4, at5, bt0, bt1, bt2, bt3, bt4, bt5⟩ := S7.out.cells6 1 rfl; obtain ⟨au0, au1, au2, au3, au4, au5, bu0, bu1, bu2, bu3, bu4, bu5⟩ := S7.out.cells6 2 rfl; obtain ⟨n1, n2⟩ := S7.out.ne 0 1 rfl rfl (by decide); obtain ⟨n3, n4⟩ := S7.out.ne 0 2 rfl rfl (by decide); obtain ⟨n5, n6⟩ := S7.out.ne 1 2 rfl rfl (by decide)))
      have S8 := (S7.out.put6 0 rfl (v0 := .int .i64 q.f0) (v1 := .int .i64 q.f1) (v2 := .int .i64 q.f2) (v3 := .int .i64 q.f3) (v4 := .string q.f4) (v5 := .slice A6 q.f5.length c6)).put6 1 rfl (v0 := .int .i64 x.f0) (v1 := .int .i64 x.f1) (v2 := .int .i64 x.f2) (v3 := .int .i64 x.f3) (v4 := .string x.f4) (v5 := .slice A' x.f5.length c')
      refine bodyPost_ret (results_cell_row rfl _ _ g2 24 #[.int .i64 x.f0, .int .i64 x.f1, .int .i64 x.f2, .int .i64 x.f3, .string x.f4, .slice A' x.f5.length c'] (0, 0) _ rfl (S8.blk 1 rfl) Try.underlying24 rfl (by kernel_rfl)) rfl ?_
      have hfin := HK.out.2.2
      rw [Shr.done ho] at hfin
      rw [← hfin]
      exact ⟨A', c', by first | rfl | simp [*], S8.out 1 rfl, S8.below⟩
    | some y =>
      obtain ⟨k1, rfl⟩ : ∃ k1, gk = k1 + 1 := ⟨gk - 1, by have := hs.less x y HK.out.1 ho; have := HK.out.2.1; omega⟩
      go_wp2_with (first
        | ((with_reducible refine gate_callee (f := 21) rfl ?_); refine goesL_ (some 11) rfl rfl Try.func21 (by kernel_rfl) rfl #[.agg #[.int .i64 x.f0, .int .i64 x.f1, .int .i64 x.f2, .int .i64 x.f3, .string x.f4, .slice A' x.f5.length c']] rfl (by (try simp only [List.map_toArray, List.map_cons, List.map_nil]); first | done | rfl) ?_; refine (h21 _ _ x A' c' HK.out.1 (S5.out.FK 0 rfl)).mono ?_; intro xx w6 hx; rw [ho] at hx; obtain ⟨A6, c6, rfl, hr, hb⟩ := gives2_some hx; refine ⟨_, rfl, ?_⟩; have S6 := Asd.mk (S5.out.call hb hr); clear hb hr hx)
        | ((with_reducible refine gate_dst (N := 3) rfl ?_); (try (refine gate_guard (by rfl) ?_; dsimp only)); refine box_event ?hg (N := 3) ?hd (cs := #[.int .i64 0, .int .i64 0, .int .i64 0, .int .i64 0, .string (⟨#[]⟩ : ByteArray), .slice none 0 0]) (t := 24) ?hr ?_; (case hd => rfl); (case hg => rfl); (case hr => first | (go_simp; done) | (go_simp; rfl)); intro g3 hg wS7 hbox hb; have S7 := Asd.mk (S6.out.box hg hbox hb); clear hb hbox hg; obtain ⟨as0, as1, as2, as3, as4, as5, bs0, bs1, bs2, bs3, bs4, bs5⟩ := S7.out.cells6 0 rfl; obtain ⟨at0, at1, at2, at3, at4, at5, bt0, bt1, bt2, bt3, bt4, bt5⟩ := S7.out.cells6 1 rfl; obtain ⟨au0, au1, au2, au3, au4, au5, bu0, bu1, bu2, bu3, bu4, bu5⟩ := S7.out.cells6 2 rfl; obtain ⟨n1, n2⟩ := S7.out.ne 0 1 rfl rfl (by decide); obtain ⟨n3, n4⟩ := S7.out.ne 0 2 rfl rfl (by decide); obtain ⟨n5, n6⟩ := S7.out.ne 1 2 rfl rfl (by decide)))
      go_roundg k1
      case measure => omega
      case rel =>
        have S8 := ((S7.out.put6 0 rfl (v0 := .int .i64 y.f0) (v1 := .int .i64 y.f1) (v2 := .int .i64 y.f2) (v3 := .int .i64 y.f3) (v4 := .string y.f4) (v5 := .slice A6 y.f5.length c6)).put6 2 rfl (v0 := .int .i64 y.f0) (v1 := .int .i64 y.f1) (v2 := .int .i64 y.f2) (v3 := .int .i64 y.f3) (v4 := .string y.f4) (v5 := .slice A6 y.f5.length c6)).drop.only 0 rfl
        exact ⟨y, A6, c6, ⟨S8⟩, ⟨hs.keep x y HK.out.1 ho, by have := hs.less x y HK.out.1 ho; have := HK.out.2.1; omega, by rw [← hs.step HK.out.1 ho]; exact HK.out.2.2⟩⟩
end Go.Ref
end
section
open Go Go.Ref Go.Proofs Go.RowKit Go.Proofs.Ytgbpdfkobelbcaa.PSimpFolds Go.Proofs.YtgbpdfkobelbcaaW.PrintWords Go.Proofs.YtgbpdfkobelbcaaW.PrintLast Go.Proofs.YtgbpdfkobelbcaaW.PrintMore
set_option linter.unusedVariables false
set_option linter.unusedSimpArgs false
namespace Go.Ref
theorem hs_grown {w W W' : World} {ok : Nat → Prop} {bx : List (Nat × List Value)} {e : S24} {A : Option Addr} {c : Nat} {row : Option Nat} (h : Hs w W ok bx [(e, cel e A c)]) (hb : Below w.heap.size w W') (hg : W.grownBy W' row) (hne : ∀ b ∈ bx, some b.1 ≠ row) (hF : Kd.F k24 w (fun k => ok k ∧ k < w.heap.size) A e.f5.length e.f5) : Hs w W' ok bx [(e, cel e A c)] := by
  refine ⟨hb, fun b hm => ⟨blk_grown (h.boxes b hm).1 hg (hne b hm), (h.boxes b hm).2⟩, h.nd, fun x hx => ?_⟩
  rw [List.mem_singleton.1 hx]
  obtain ⟨A0, c0, hcs, hl0, _⟩ := k24_openF (h.FK 0 rfl)
  have hc : c0 = c ∧ A0 = A := by
    have := congrArg (fun l => l[5]?) hcs
    simp only [cel] at this
    injection this with this
    injection this with h1 h2 h3
    exact ⟨h3.symm, h1.symm⟩
  obtain ⟨rfl, rfl⟩ := hc
  refine k24_mkF _ _ e hl0 (Kd.F_mono (Kd.F_step hF (fun k hk _ => hb.block k hk.2)) (fun k hk => ⟨.inl hk.1, fun b hm => ?_⟩))
  have := (h.boxes b hm).2
  have := hk.2
  omega
def first4 (a b c d : S24 → Option S24) (x : S24) : Option S24 := match a x with | some y => some y | none => match b x with | some y => some y | none => match c x with | some y => some y | none => d x
def okN (ok : Nat → Prop) (B g1 g2 k : Nat) : Prop := okS ok B k ∧ k ≠ g1 ∧ k ≠ g2
set_option maxHeartbeats 4000000 in
set_option maxRecDepth 100000 in
theorem fold9_calls {s22 s23 s24 s25 : S24 → Option S24} {m : S24 → Nat} {P dom : S24 → Prop} {g : S24 → S24} (h22 : RuleO 22 s22 P) (h23 : RuleO 23 s23 (fun _ => True)) (h24 : RuleO 24 s24 (fun _ => True)) (h25 : RuleO 25 s25 (fun _ => True)) (hs : Shr (first4 s22 s23 s24 s25) m P) (h9 : FunE 9 g dom) {w : World} {ok : Nat → Prop} {e : S24} {A : Option Addr} {c : Nat} (hd : ∀ x ∈ e.f5, dom x) (hl : e.f5.length ≤ 1000000) (hP : P { e with f5 := e.f5.map g }) (hf : Kd.FK k24 w ok e (cel e A c)) :
    Calls Try.prog 9 #[.agg #[.int .i64 e.f0, .int .i64 e.f1, .int .i64 e.f2, .int .i64 e.f3, .string e.f4, .slice A e.f5.length c]] w (Gives3 w ok (foldL (first4 s22 s23 s24 s25) (m { e with f5 := e.f5.map g }) { e with f5 := e.f5.map g })) := by
  have hu24 := Try.underlying24
  have HF0 := Asd.mk (show Kd.F k24 w (fun k => ok k ∧ k < w.heap.size) A e.f5.length e.f5 from by
    obtain ⟨A0, c0, hcs, hl0, hF⟩ := k24_openF hf
    have hA0 : A0 = A := by
      have := congrArg (fun l => l[5]?) hcs
      simp only [cel] at this
      injection this with this
      injection this with this
      exact this.symm
    subst hA0
    exact Kd.F_bound hF)
  have S0 := Asd.mk (Hs.start hf)
  have HD := Asd.mk hd
  have HL := Asd.mk hl
  have HP := Asd.mk hP
  clear hf hd hl hP
  go_enter Try.func9, Try.ntmps9
  go_wp2_with (first
    | ((with_reducible refine gate_dst (N := 1) rfl ?_); (try (refine gate_guard (by rfl) ?_; dsimp only)); refine box_event ?hg (N := 1) ?hd (cs := #[.int .i64 e.f0, .int .i64 e.f1, .int .i64 e.f2, .int .i64 e.f3, .string e.f4, .slice A e.f5.length c]) (t := 24) ?hr ?_; (case hd => rfl); (case hg => rfl); (case hr => first | (go_simp; done) | (go_simp; rfl)); intro g1 hg wS1 hbox hb; have S1 := Asd.mk (S0.out.box hg hbox hb); clear hb hbox hg)
    | ((with_reducible refine gate_dst (N := 2) rfl ?_); (try (refine gate_guard (by rfl) ?_; dsimp only)); refine box_event ?hg (N := 2) ?hd (cs := #[.int .i64 0, .int .i64 0, .int .i64 0, .int .i64 0, .string (⟨#[]⟩ : ByteArray), .slice none 0 0]) (t := 24) ?hr ?_; (case hd => rfl); (case hg => rfl); (case hr => first | (go_simp; done) | (go_simp; rfl)); intro g2 hg wS2 hbox hb; have S2 := Asd.mk (S1.out.box hg hbox hb); clear hb hbox hg; obtain ⟨ap0, ap1, ap2, ap3, ap4, ap5, bp0, bp1, bp2, bp3, bp4, bp5⟩ := S2.out.cells6 1 rfl))
  go_loopg [3, 4] e.f5.length (fun kq v3 v4 w' => ∃ (j : Int), v4 = .int .i64 j ∧ Asd (0 ≤ j ∧ j.toNat + kq = e.f5.length) ∧ Asd (Kd.N k24 24 w' w.heap.size (okN ok w.heap.size g1 g2) v3 ((e.f5.take j.toNat).map g)) ∧ Asd (Hs w w' ok [(g2, [.int .i64 0, .int .i64 0, .int .i64 0, .int .i64 0, .string (⟨#[]⟩ : ByteArray), .slice none 0 0]), (g1, cel e A c)] [(e, cel e A c)]))
  case atStart => exact ⟨0, rfl, ⟨by simp⟩, ⟨Kd.N_nil _ _ _ _ _⟩, ⟨S2.out⟩⟩
  case round =>
    obtain ⟨j, rfl, HK, HN, HS⟩ := hrel
    clear S0 S1 S2
    obtain ⟨aq0, aq1, aq2, aq3, aq4, aq5, bq0, bq1, bq2, bq3, bq4, bq5⟩ := HS.out.cells6 1 rfl
    have G1 := Asd.mk (show w.heap.size ≤ g1 ∧ g1 < wr.heap.size from ⟨(HS.out.boxes _ (List.mem_of_getElem? (i := 1) rfl)).2, HS.out.lt (List.mem_of_getElem? (i := 1) rfl)⟩)
    have G2 := Asd.mk (show w.heap.size ≤ g2 ∧ g2 < wr.heap.size from ⟨(HS.out.boxes _ (List.mem_of_getElem? (i := 0) rfl)).2, HS.out.lt (List.mem_of_getElem? (i := 0) rfl)⟩)
    cases gk with
    | zero =>
      have c0 : decide (j < (e.f5.length : Int)) = false := decide_eq_false (by have := HK.out; omega)
      have hj : j.toNat = e.f5.length := by have := HK.out; omega
      rw [hj, List.take_length] at HN
      clear hj
      obtain ⟨A1, c1, e5⟩ := Kd.N_slice HN.out
      have el : (e.f5.map g).length = e.f5.length := List.length_map ..
      rw [el] at e5
      subst e5
      have EL := Asd.mk el
      clear el
      go_wp2
      have hr := Kd.N_reads' HN.out
      have S4 := Asd.mk (((HS.out.add (r := { e with f5 := e.f5.map g }) (cs := cel { e with f5 := e.f5.map g } A1 c1) (k24_mkF _ _ _ (by rw [EL.out]; exact hr.2.1) (Kd.F_mono (show Kd.F k24 wr (okN ok w.heap.size g1 g2) A1 (e.f5.map g).length (e.f5.map g) by rw [EL.out]; exact Kd.N_F HN.out) (fun k hk => ⟨hk.1.elim (fun h => .inl h.1) .inr, fun b hb => by rcases List.mem_cons.1 hb with rfl | hb; exact hk.2.2; rw [List.mem_singleton.1 hb]; exact hk.2.1⟩)))).put 1 rfl 5 (.slice A1 (e.f5.map g).length c1)).only 0 rfl)
      clear hr HN HS HK
      go_loopg [] (m { e with f5 := e.f5.map g }) (fun kq w' => ∃ (x : S24) (A' : Option Addr) (c' : Nat), Asd (Hs w w' ok [(g2, [.int .i64 0, .int .i64 0, .int .i64 0, .int .i64 0, .string (⟨#[]⟩ : ByteArray), .slice none 0 0]), (g1, cel x A' c')] [(x, cel x A' c')]) ∧ Asd (P x ∧ m x ≤ kq ∧ foldL (first4 s22 s23 s24 s25) (m x) x = foldL (first4 s22 s23 s24 s25) (m { e with f5 := e.f5.map g }) { e with f5 := e.f5.map g }))
      case atStart => exact ⟨{ e with f5 := e.f5.map g }, A1, c1, ⟨by rw [← show (e.f5.map g).length = e.f5.length from List.length_map ..]; exact S4.out⟩, ⟨HP.out, Nat.le_refl _, rfl⟩⟩
      case round =>
        obtain ⟨x, A', c', S5, HK⟩ := hrel
        clear G1 G2 aq0 aq1 aq2 aq3 aq4 aq5 bq0 bq1 bq2 bq3 bq4 bq5 c0
        obtain ⟨ar0, ar1, ar2, ar3, ar4, ar5, br0, br1, br2, br3, br4, br5⟩ := S5.out.cells6 1 rfl
        cases h1 : s22 x with
        | some y =>
          have ho : first4 s22 s23 s24 s25 x = some y := by simp [first4, h1]
          obtain ⟨k1, rfl⟩ : ∃ k1, gk = k1 + 1 := ⟨gk - 1, by have := hs.less x y HK.out.1 ho; have := HK.out.2.1; omega⟩
          go_wp2_with (first
            | ((with_reducible refine gate_callee (f := 22) rfl ?_); refine goesL_ (some 27) rfl rfl Try.func22 (by kernel_rfl) rfl #[.agg #[.int .i64 x.f0, .int .i64 x.f1, .int .i64 x.f2, .int .i64 x.f3, .string x.f4, .slice A' x.f5.length c']] rfl (by (try simp only [List.map_toArray, List.map_cons, List.map_nil]); first | done | rfl) ?_; refine (h22 _ _ x A' c' HK.out.1 (S5.out.FK 0 rfl)).mono ?_; intro xx wC0 hx; rw [h1] at hx; obtain ⟨AC0, cC0, rfl, hr, hb⟩ := gives2_some hx; refine ⟨_, rfl, ?_⟩; have C0 := Asd.mk (S5.out.call hb hr); clear hb hr hx)
            | ((with_reducible refine gate_dst (N := 5) rfl ?_); (try (refine gate_guard (by rfl) ?_; dsimp only)); refine box_event ?hg (N := 5) ?hd (cs := #[.int .i64 0, .int .i64 0, .int .i64 0, .int .i64 0, .string (⟨#[]⟩ : ByteArray), .slice none 0 0]) (t := 24) ?hr ?_; (case hd => rfl); (case hg => rfl); (case hr => first | (go_simp; done) | (go_simp; rfl)); intro g5 hg wS7 hbox hb; have S7 := Asd.mk (C0.out.box hg hbox hb); clear hb hbox hg; obtain ⟨as0, as1, as2, as3, as4, as5, bs0, bs1, bs2, bs3, bs4, bs5⟩ := S7.out.cells6 0 rfl; obtain ⟨at0, at1, at2, at3, at4, at5, bt0, bt1, bt2, bt3, bt4, bt5⟩ := S7.out.cells6 1 rfl; obtain ⟨au0, au1, au2, au3, au4, au5, bu0, bu1, bu2, bu3, bu4, bu5⟩ := S7.out.cells6 2 rfl; obtain ⟨n1, n2⟩ := S7.out.ne 0 1 rfl rfl (by decide); obtain ⟨n3, n4⟩ := S7.out.ne 0 2 rfl rfl (by decide); obtain ⟨n5, n6⟩ := S7.out.ne 1 2 rfl rfl (by decide)))
          go_roundg k1
          case measure => omega
          case rel =>
            have S8 := ((S7.out.put6 0 rfl (v0 := .int .i64 y.f0) (v1 := .int .i64 y.f1) (v2 := .int .i64 y.f2) (v3 := .int .i64 y.f3) (v4 := .string y.f4) (v5 := .slice AC0 y.f5.length cC0)).put6 2 rfl (v0 := .int .i64 y.f0) (v1 := .int .i64 y.f1) (v2 := .int .i64 y.f2) (v3 := .int .i64 y.f3) (v4 := .string y.f4) (v5 := .slice AC0 y.f5.length cC0)).drop.only 0 rfl
            exact ⟨y, AC0, cC0, ⟨S8⟩, ⟨hs.keep x y HK.out.1 ho, by have := hs.less x y HK.out.1 ho; have := HK.out.2.1; omega, by rw [← hs.step HK.out.1 ho]; exact HK.out.2.2⟩⟩
        | none =>
        cases h2 : s23 x with
        | some y =>
          have ho : first4 s22 s23 s24 s25 x = some y := by simp [first4, h1, h2]
          obtain ⟨k1, rfl⟩ : ∃ k1, gk = k1 + 1 := ⟨gk - 1, by have := hs.less x y HK.out.1 ho; have := HK.out.2.1; omega⟩
          go_wp2_with (first
            | ((with_reducible refine gate_callee (f := 22) rfl ?_); refine goesL_ (some 27) rfl rfl Try.func22 (by kernel_rfl) rfl #[.agg #[.int .i64 x.f0, .int .i64 x.f1, .int .i64 x.f2, .int .i64 x.f3, .string x.f4, .slice A' x.f5.length c']] rfl (by (try simp only [List.map_toArray, List.map_cons, List.map_nil]); first | done | rfl) ?_; refine (h22 _ _ x A' c' HK.out.1 (S5.out.FK 0 rfl)).mono ?_; intro xx wC0 hx; rw [h1] at hx; obtain ⟨qC0, AC0, cC0, rfl, hr, hb⟩ := gives2_none hx; refine ⟨_, rfl, ?_⟩; have C0 := Asd.mk (S5.out.call hb hr); clear hb hr hx)
            | ((with_reducible refine gate_dst (N := 5) rfl ?_); (try (refine gate_guard (by rfl) ?_; dsimp only)); refine box_event ?hg (N := 5) ?hd (cs := #[.int .i64 0, .int .i64 0, .int .i64 0, .int .i64 0, .string (⟨#[]⟩ : ByteArray), .slice none 0 0]) (t := 24) ?hr ?_; (case hd => rfl); (case hg => rfl); (case hr => first | (go_simp; done) | (go_simp; rfl)); intro g5 hg wS7 hbox hb; have S7 := Asd.mk (C0.out.box hg hbox hb); clear hb hbox hg; obtain ⟨as0, as1, as2, as3, as4, as5, bs0, bs1, bs2, bs3, bs4, bs5⟩ := S7.out.cells6 0 rfl; obtain ⟨at0, at1, at2, at3, at4, at5, bt0, bt1, bt2, bt3, bt4, bt5⟩ := S7.out.cells6 1 rfl; obtain ⟨au0, au1, au2, au3, au4, au5, bu0, bu1, bu2, bu3, bu4, bu5⟩ := S7.out.cells6 2 rfl; obtain ⟨n1, n2⟩ := S7.out.ne 0 1 rfl rfl (by decide); obtain ⟨n3, n4⟩ := S7.out.ne 0 2 rfl rfl (by decide); obtain ⟨n5, n6⟩ := S7.out.ne 1 2 rfl rfl (by decide))
            | ((with_reducible refine gate_callee (f := 23) rfl ?_); refine goesL_ (some 34) rfl rfl Try.func23 (by kernel_rfl) rfl #[.agg #[.int .i64 x.f0, .int .i64 x.f1, .int .i64 x.f2, .int .i64 x.f3, .string x.f4, .slice A' x.f5.length c']] rfl (by (try simp only [List.map_toArray, List.map_cons, List.map_nil]); first | done | rfl) ?_; have P1 := Asd.mk (S7.out.put6 0 rfl (v0 := .int .i64 qC0.f0) (v1 := .int .i64 qC0.f1) (v2 := .int .i64 qC0.f2) (v3 := .int .i64 qC0.f3) (v4 := .string qC0.f4) (v5 := .slice AC0 qC0.f5.length cC0)); refine (h23 _ _ x A' c' trivial (P1.out.FK 1 rfl)).mono ?_; intro xx wC1 hx; rw [h2] at hx; obtain ⟨AC1, cC1, rfl, hr, hb⟩ := gives2_some hx; refine ⟨_, rfl, ?_⟩; have C1 := Asd.mk (P1.out.call hb hr); clear hb hr hx; obtain ⟨as10, as11, as12, as13, as14, as15, bs10, bs11, bs12, bs13, bs14, bs15⟩ := C1.out.cells6 0 rfl; obtain ⟨at10, at11, at12, at13, at14, at15, bt10, bt11, bt12, bt13, bt14, bt15⟩ := C1.out.cells6 1 rfl; obtain ⟨au10, au11, au12, au13, au14, au15, bu10, bu11, bu12, bu13, bu14, bu15⟩ := C1.out.cells6 2 rfl))
          go_roundg k1
          case measure => omega
          case rel =>
            have S8 := ((C1.out.put6 0 rfl (v0 := .int .i64 y.f0) (v1 := .int .i64 y.f1) (v2 := .int .i64 y.f2) (v3 := .int .i64 y.f3) (v4 := .string y.f4) (v5 := .slice AC1 y.f5.length cC1)).put6 2 rfl (v0 := .int .i64 y.f0) (v1 := .int .i64 y.f1) (v2 := .int .i64 y.f2) (v3 := .int .i64 y.f3) (v4 := .string y.f4) (v5 := .slice AC1 y.f5.length cC1)).drop.only 0 rfl
            exact ⟨y, AC1, cC1, ⟨S8⟩, ⟨hs.keep x y HK.out.1 ho, by have := hs.less x y HK.out.1 ho; have := HK.out.2.1; omega, by rw [← hs.step HK.out.1 ho]; exact HK.out.2.2⟩⟩
        | none =>
        cases h3 : s24 x with
        | some y =>
          have ho : first4 s22 s23 s24 s25 x = some y := by simp [first4, h1, h2, h3]
          obtain ⟨k1, rfl⟩ : ∃ k1, gk = k1 + 1 := ⟨gk - 1, by have := hs.less x y HK.out.1 ho; have := HK.out.2.1; omega⟩
          go_wp2_with (first
            | ((with_reducible refine gate_callee (f := 22) rfl ?_); refine goesL_ (some 27) rfl rfl Try.func22 (by kernel_rfl) rfl #[.agg #[.int .i64 x.f0, .int .i64 x.f1, .int .i64 x.f2, .int .i64 x.f3, .string x.f4, .slice A' x.f5.length c']] rfl (by (try simp only [List.map_toArray, List.map_cons, List.map_nil]); first | done | rfl) ?_; refine (h22 _ _ x A' c' HK.out.1 (S5.out.FK 0 rfl)).mono ?_; intro xx wC0 hx; rw [h1] at hx; obtain ⟨qC0, AC0, cC0, rfl, hr, hb⟩ := gives2_none hx; refine ⟨_, rfl, ?_⟩; have C0 := Asd.mk (S5.out.call hb hr); clear hb hr hx)
            | ((with_reducible refine gate_dst (N := 5) rfl ?_); (try (refine gate_guard (by rfl) ?_; dsimp only)); refine box_event ?hg (N := 5) ?hd (cs := #[.int .i64 0, .int .i64 0, .int .i64 0, .int .i64 0, .string (⟨#[]⟩ : ByteArray), .slice none 0 0]) (t := 24) ?hr ?_; (case hd => rfl); (case hg => rfl); (case hr => first | (go_simp; done) | (go_simp; rfl)); intro g5 hg wS7 hbox hb; have S7 := Asd.mk (C0.out.box hg hbox hb); clear hb hbox hg; obtain ⟨as0, as1, as2, as3, as4, as5, bs0, bs1, bs2, bs3, bs4, bs5⟩ := S7.out.cells6 0 rfl; obtain ⟨at0, at1, at2, at3, at4, at5, bt0, bt1, bt2, bt3, bt4, bt5⟩ := S7.out.cells6 1 rfl; obtain ⟨au0, au1, au2, au3, au4, au5, bu0, bu1, bu2, bu3, bu4, bu5⟩ := S7.out.cells6 2 rfl; obtain ⟨n1, n2⟩ := S7.out.ne 0 1 rfl rfl (by decide); obtain ⟨n3, n4⟩ := S7.out.ne 0 2 rfl rfl (by decide); obtain ⟨n5, n6⟩ := S7.out.ne 1 2 rfl rfl (by decide))
            | ((with_reducible refine gate_callee (f := 23) rfl ?_); refine goesL_ (some 34) rfl rfl Try.func23 (by kernel_rfl) rfl #[.agg #[.int .i64 x.f0, .int .i64 x.f1, .int .i64 x.f2, .int .i64 x.f3, .string x.f4, .slice A' x.f5.length c']] rfl (by (try simp only [List.map_toArray, List.map_cons, List.map_nil]); first | done | rfl) ?_; have P1 := Asd.mk (S7.out.put6 0 rfl (v0 := .int .i64 qC0.f0) (v1 := .int .i64 qC0.f1) (v2 := .int .i64 qC0.f2) (v3 := .int .i64 qC0.f3) (v4 := .string qC0.f4) (v5 := .slice AC0 qC0.f5.length cC0)); refine (h23 _ _ x A' c' trivial (P1.out.FK 1 rfl)).mono ?_; intro xx wC1 hx; rw [h2] at hx; obtain ⟨qC1, AC1, cC1, rfl, hr, hb⟩ := gives2_none hx; refine ⟨_, rfl, ?_⟩; have C1 := Asd.mk (P1.out.call hb hr); clear hb hr hx; obtain ⟨as10, as11, as12, as13, as14, as15, bs10, bs11, bs12, bs13, bs14, bs15⟩ := C1.out.cells6 0 rfl; obtain ⟨at10, at11, at12, at13, at14, at15, bt10, bt11, bt12, bt13, bt14, bt15⟩ := C1.out.cells6 1 rfl; obtain ⟨au10, au11, au12, au13, au14, au15, bu10, bu11, bu12, bu13, bu14, bu15⟩ := C1.out.cells6 2 rfl)
            | ((with_reducible refine gate_callee (f := 24) rfl ?_); refine goesL_ (some 41) rfl rfl Try.func24 (by kernel_rfl) rfl #[.agg #[.int .i64 x.f0, .int .i64 x.f1, .int .i64 x.f2, .int .i64 x.f3, .string x.f4, .slice A' x.f5.length c']] rfl (by (try simp only [List.map_toArray, List.map_cons, List.map_nil]); first | done | rfl) ?_; have P2 := Asd.mk (C1.out.put6 0 rfl (v0 := .int .i64 qC1.f0) (v1 := .int .i64 qC1.f1) (v2 := .int .i64 qC1.f2) (v3 := .int .i64 qC1.f3) (v4 := .string qC1.f4) (v5 := .slice AC1 qC1.f5.length cC1)); refine (h24 _ _ x A' c' trivial (P2.out.FK 2 rfl)).mono ?_; intro xx wC2 hx; rw [h3] at hx; obtain ⟨AC2, cC2, rfl, hr, hb⟩ := gives2_some hx; refine ⟨_, rfl, ?_⟩; have C2 := Asd.mk (P2.out.call hb hr); clear hb hr hx; obtain ⟨as20, as21, as22, as23, as24, as25, bs20, bs21, bs22, bs23, bs24, bs25⟩ := C2.out.cells6 0 rfl; obtain ⟨at20, at21, at22, at23, at24, at25, bt20, bt21, bt22, bt23, bt24, bt25⟩ := C2.out.cells6 1 rfl; obtain ⟨au20, au21, au22, au23, au24, au25, bu20, bu21, bu22, bu23, bu24, bu25⟩ := C2.out.cells6 2 rfl))
          go_roundg k1
          case measure => omega
          case rel =>
            have S8 := ((C2.out.put6 0 rfl (v0 := .int .i64 y.f0) (v1 := .int .i64 y.f1) (v2 := .int .i64 y.f2) (v3 := .int .i64 y.f3) (v4 := .string y.f4) (v5 := .slice AC2 y.f5.length cC2)).put6 2 rfl (v0 := .int .i64 y.f0) (v1 := .int .i64 y.f1) (v2 := .int .i64 y.f2) (v3 := .int .i64 y.f3) (v4 := .string y.f4) (v5 := .slice AC2 y.f5.length cC2)).drop.only 0 rfl
            exact ⟨y, AC2, cC2, ⟨S8⟩, ⟨hs.keep x y HK.out.1 ho, by have := hs.less x y HK.out.1 ho; have := HK.out.2.1; omega, by rw [← hs.step HK.out.1 ho]; exact HK.out.2.2⟩⟩
        | none =>
        cases h4 : s25 x with
        | some y =>
          have ho : first4 s22 s23 s24 s25 x = some y := by simp [first4, h1, h2, h3, h4]
          obtain ⟨k1, rfl⟩ : ∃ k1, gk = k1 + 1 := ⟨gk - 1, by have := hs.less x y HK.out.1 ho; have := HK.out.2.1; omega⟩
          go_wp2_with (first
            | ((with_reducible refine gate_callee (f := 22) rfl ?_); refine goesL_ (some 27) rfl rfl Try.func22 (by kernel_rfl) rfl #[.agg #[.int .i64 x.f0, .int .i64 x.f1, .int .i64 x.f2, .int .i64 x.f3, .string x.f4, .slice A' x.f5.length c']] rfl (by (try simp only [List.map_toArray, List.map_cons, List.map_nil]); first | done | rfl) ?_; refine (h22 _ _ x A' c' HK.out.1 (S5.out.FK 0 rfl)).mono ?_; intro xx wC0 hx; rw [h1] at hx; obtain ⟨qC0, AC0, cC0, rfl, hr, hb⟩ := gives2_none hx; refine ⟨_, rfl, ?_⟩; have C0 := Asd.mk (S5.out.call hb hr); clear hb hr hx)
            | ((with_reducible refine gate_dst (N := 5) rfl ?_); (try (refine gate_guard (by rfl) ?_; dsimp only)); refine box_event ?hg (N := 5) ?hd (cs := #[.int .i64 0, .int .i64 0, .int .i64 0, .int .i64 0, .string (⟨#[]⟩ : ByteArray), .slice none 0 0]) (t := 24) ?hr ?_; (case hd => rfl); (case hg => rfl); (case hr => first | (go_simp; done) | (go_simp; rfl)); intro g5 hg wS7 hbox hb; have S7 := Asd.mk (C0.out.box hg hbox hb); clear hb hbox hg; obtain ⟨as0, as1, as2, as3, as4, as5, bs0, bs1, bs2, bs3, bs4, bs5⟩ := S7.out.cells6 0 rfl; obtain ⟨at0, at1, at2, at3, at4, at5, bt0, bt1, bt2, bt3, bt4, bt5⟩ := S7.out.cells6 1 rfl; obtain ⟨au0, au1, au2, au3, au4, au5, bu0, bu1, bu2, bu3, bu4, bu5⟩ := S7.out.cells6 2 rfl; obtain ⟨n1, n2⟩ := S7.out.ne 0 1 rfl rfl (by decide); obtain ⟨n3, n4⟩ := S7.out.ne 0 2 rfl rfl (by decide); obtain ⟨n5, n6⟩ := S7.out.ne 1 2 rfl rfl (by decide))
            | ((with_reducible refine gate_callee (f := 23) rfl ?_); refine goesL_ (some 34) rfl rfl Try.func23 (by kernel_rfl) rfl #[.agg #[.int .i64 x.f0, .int .i64 x.f1, .int .i64 x.f2, .int .i64 x.f3, .string x.f4, .slice A' x.f5.length c']] rfl (by (try simp only [List.map_toArray, List.map_cons, List.map_nil]); first | done | rfl) ?_; have P1 := Asd.mk (S7.out.put6 0 rfl (v0 := .int .i64 qC0.f0) (v1 := .int .i64 qC0.f1) (v2 := .int .i64 qC0.f2) (v3 := .int .i64 qC0.f3) (v4 := .string qC0.f4) (v5 := .slice AC0 qC0.f5.length cC0)); refine (h23 _ _ x A' c' trivial (P1.out.FK 1 rfl)).mono ?_; intro xx wC1 hx; rw [h2] at hx; obtain ⟨qC1, AC1, cC1, rfl, hr, hb⟩ := gives2_none hx; refine ⟨_, rfl, ?_⟩; have C1 := Asd.mk (P1.out.call hb hr); clear hb hr hx; obtain ⟨as10, as11, as12, as13, as14, as15, bs10, bs11, bs12, bs13, bs14, bs15⟩ := C1.out.cells6 0 rfl; obtain ⟨at10, at11, at12, at13, at14, at15, bt10, bt11, bt12, bt13, bt14, bt15⟩ := C1.out.cells6 1 rfl; obtain ⟨au10, au11, au12, au13, au14, au15, bu10, bu11, bu12, bu13, bu14, bu15⟩ := C1.out.cells6 2 rfl)
            | ((with_reducible refine gate_callee (f := 24) rfl ?_); refine goesL_ (some 41) rfl rfl Try.func24 (by kernel_rfl) rfl #[.agg #[.int .i64 x.f0, .int .i64 x.f1, .int .i64 x.f2, .int .i64 x.f3, .string x.f4, .slice A' x.f5.length c']] rfl (by (try simp only [List.map_toArray, List.map_cons, List.map_nil]); first | done | rfl) ?_; have P2 := Asd.mk (C1.out.put6 0 rfl (v0 := .int .i64 qC1.f0) (v1 := .int .i64 qC1.f1) (v2 := .int .i64 qC1.f2) (v3 := .int .i64 qC1.f3) (v4 := .string qC1.f4) (v5 := .slice AC1 qC1.f5.length cC1)); refine (h24 _ _ x A' c' trivial (P2.out.FK 2 rfl)).mono ?_; intro xx wC2 hx; rw [h3] at hx; obtain ⟨qC2, AC2, cC2, rfl, hr, hb⟩ := gives2_none hx; refine ⟨_, rfl, ?_⟩; have C2 := Asd.mk (P2.out.call hb hr); clear hb hr hx; obtain ⟨as20, as21, as22, as23, as24, as25, bs20, bs21, bs22, bs23, bs24, bs25⟩ := C2.out.cells6 0 rfl; obtain ⟨at20, at21, at22, at23, at24, at25, bt20, bt21, bt22, bt23, bt24, bt25⟩ := C2.out.cells6 1 rfl; obtain ⟨au20, au21, au22, au23, au24, au25, bu20, bu21, bu22, bu23, bu24, bu25⟩ := C2.out.cells6 2 rfl)
            | ((with_reducible refine gate_callee (f := 25) rfl ?_); refine goesL_ (some 48) rfl rfl Try.func25 (by kernel_rfl) rfl #[.agg #[.int .i64 x.f0, .int .i64 x.f1, .int .i64 x.f2, .int .i64 x.f3, .string x.f4, .slice A' x.f5.length c']] rfl (by (try simp only [List.map_toArray, List.map_cons, List.map_nil]); first | done | rfl) ?_; have P3 := Asd.mk (C2.out.put6 0 rfl (v0 := .int .i64 qC2.f0) (v1 := .int .i64 qC2.f1) (v2 := .int .i64 qC2.f2) (v3 := .int .i64 qC2.f3) (v4 := .string qC2.f4) (v5 := .slice AC2 qC2.f5.length cC2)); refine (h25 _ _ x A' c' trivial (P3.out.FK 3 rfl)).mono ?_; intro xx wC3 hx; rw [h4] at hx; obtain ⟨AC3, cC3, rfl, hr, hb⟩ := gives2_some hx; refine ⟨_, rfl, ?_⟩; have C3 := Asd.mk (P3.out.call hb hr); clear hb hr hx; obtain ⟨as30, as31, as32, as33, as34, as35, bs30, bs31, bs32, bs33, bs34, bs35⟩ := C3.out.cells6 0 rfl; obtain ⟨at30, at31, at32, at33, at34, at35, bt30, bt31, bt32, bt33, bt34, bt35⟩ := C3.out.cells6 1 rfl; obtain ⟨au30, au31, au32, au33, au34, au35, bu30, bu31, bu32, bu33, bu34, bu35⟩ := C3.out.cells6 2 rfl))
          go_roundg k1
          case measure => omega
          case rel =>
            have S8 := ((C3.out.put6 0 rfl (v0 := .int .i64 y.f0) (v1 := .int .i64 y.f1) (v2 := .int .i64 y.f2) (v3 := .int .i64 y.f3) (v4 := .string y.f4) (v5 := .slice AC3 y.f5.length cC3)).put6 2 rfl (v0 := .int .i64 y.f0) (v1 := .int .i64 y.f1) (v2 := .int .i64 y.f2) (v3 := .int .i64 y.f3) (v4 := .string y.f4) (v5 := .slice AC3 y.f5.length cC3)).drop.only 0 rfl
            exact ⟨y, AC3, cC3, ⟨S8⟩, ⟨hs.keep x y HK.out.1 ho, by have := hs.less x y HK.out.1 ho; have := HK.out.2.1; omega, by rw [← hs.step HK.out.1 ho]; exact HK.out.2.2⟩⟩
        | none =>
          have ho : first4 s22 s23 s24 s25 x = none := by simp [first4, h1, h2, h3, h4]
          go_wp2_with (first
            | ((with_reducible refine gate_callee (f := 22) rfl ?_); refine goesL_ (some 27) rfl rfl Try.func22 (by kernel_rfl) rfl #[.agg #[.int .i64 x.f0, .int .i64 x.f1, .int .i64 x.f2, .int .i64 x.f3, .string x.f4, .slice A' x.f5.length c']] rfl (by (try simp only [List.map_toArray, List.map_cons, List.map_nil]); first | done | rfl) ?_; refine (h22 _ _ x A' c' HK.out.1 (S5.out.FK 0 rfl)).mono ?_; intro xx wC0 hx; rw [h1] at hx; obtain ⟨qC0, AC0, cC0, rfl, hr, hb⟩ := gives2_none hx; refine ⟨_, rfl, ?_⟩; have C0 := Asd.mk (S5.out.call hb hr); clear hb hr hx)
            | ((with_reducible refine gate_dst (N := 5) rfl ?_); (try (refine gate_guard (by rfl) ?_; dsimp only)); refine box_event ?hg (N := 5) ?hd (cs := #[.int .i64 0, .int .i64 0, .int .i64 0, .int .i64 0, .string (⟨#[]⟩ : ByteArray), .slice none 0 0]) (t := 24) ?hr ?_; (case hd => rfl); (case hg => rfl); (case hr => first | (go_simp; done) | (go_simp; rfl)); intro g5 hg wS7 hbox hb; have S7 := Asd.mk (C0.out.box hg hbox hb); clear hb hbox hg; obtain ⟨as0, as1, as2, as3, as4, as5, bs0, bs1, bs2, bs3, bs4, bs5⟩ := S7.out.cells6 0 rfl; obtain ⟨at0, at1, at2, at3, at4, at5, bt0, bt1, bt2, bt3, bt4, bt5⟩ := S7.out.cells6 1 rfl; obtain ⟨au0, au1, au2, au3, au4, au5, bu0, bu1, bu2, bu3, bu4, bu5⟩ := S7.out.cells6 2 rfl; obtain ⟨n1, n2⟩ := S7.out.ne 0 1 rfl rfl (by decide); obtain ⟨n3, n4⟩ := S7.out.ne 0 2 rfl rfl (by decide); obtain ⟨n5, n6⟩ := S7.out.ne 1 2 rfl rfl (by decide))
            | ((with_reducible refine gate_callee (f := 23) rfl ?_); refine goesL_ (some 34) rfl rfl Try.func23 (by kernel_rfl) rfl #[.agg #[.int .i64 x.f0, .int .i64 x.f1, .int .i64 x.f2, .int .i64 x.f3, .string x.f4, .slice A' x.f5.length c']] rfl (by (try simp only [List.map_toArray, List.map_cons, List.map_nil]); first | done | rfl) ?_; have P1 := Asd.mk (S7.out.put6 0 rfl (v0 := .int .i64 qC0.f0) (v1 := .int .i64 qC0.f1) (v2 := .int .i64 qC0.f2) (v3 := .int .i64 qC0.f3) (v4 := .string qC0.f4) (v5 := .slice AC0 qC0.f5.length cC0)); refine (h23 _ _ x A' c' trivial (P1.out.FK 1 rfl)).mono ?_; intro xx wC1 hx; rw [h2] at hx; obtain ⟨qC1, AC1, cC1, rfl, hr, hb⟩ := gives2_none hx; refine ⟨_, rfl, ?_⟩; have C1 := Asd.mk (P1.out.call hb hr); clear hb hr hx; obtain ⟨as10, as11, as12, as13, as14, as15, bs10, bs11, bs12, bs13, bs14, bs15⟩ := C1.out.cells6 0 rfl; obtain ⟨at10, at11, at12, at13, at14, at15, bt10, bt11, bt12, bt13, bt14, bt15⟩ := C1.out.cells6 1 rfl; obtain ⟨au10, au11, au12, au13, au14, au15, bu10, bu11, bu12, bu13, bu14, bu15⟩ := C1.out.cells6 2 rfl)
            | ((with_reducible refine gate_callee (f := 24) rfl ?_); refine goesL_ (some 41) rfl rfl Try.func24 (by kernel_rfl) rfl #[.agg #[.int .i64 x.f0, .int .i64 x.f1, .int .i64 x.f2, .int .i64 x.f3, .string x.f4, .slice A' x.f5.length c']] rfl (by (try simp only [List.map_toArray, List.map_cons, List.map_nil]); first | done | rfl) ?_; have P2 := Asd.mk (C1.out.put6 0 rfl (v0 := .int .i64 qC1.f0) (v1 := .int .i64 qC1.f1) (v2 := .int .i64 qC1.f2) (v3 := .int .i64 qC1.f3) (v4 := .string qC1.f4) (v5 := .slice AC1 qC1.f5.length cC1)); refine (h24 _ _ x A' c' trivial (P2.out.FK 2 rfl)).mono ?_; intro xx wC2 hx; rw [h3] at hx; obtain ⟨qC2, AC2, cC2, rfl, hr, hb⟩ := gives2_none hx; refine ⟨_, rfl, ?_⟩; have C2 := Asd.mk (P2.out.call hb hr); clear hb hr hx; obtain ⟨as20, as21, as22, as23, as24, as25, bs20, bs21, bs22, bs23, bs24, bs25⟩ := C2.out.cells6 0 rfl; obtain ⟨at20, at21, at22, at23, at24, at25, bt20, bt21, bt22, bt23, bt24, bt25⟩ := C2.out.cells6 1 rfl; obtain ⟨au20, au21, au22, au23, au24, au25, bu20, bu21, bu22, bu23, bu24, bu25⟩ := C2.out.cells6 2 rfl)
            | ((with_reducible refine gate_callee (f := 25) rfl ?_); refine goesL_ (some 48) rfl rfl Try.func25 (by kernel_rfl) rfl #[.agg #[.int .i64 x.f0, .int .i64 x.f1, .int .i64 x.f2, .int .i64 x.f3, .string x.f4, .slice A' x.f5.length c']] rfl (by (try simp only [List.map_toArray, List.map_cons, List.map_nil]); first | done | rfl) ?_; have P3 := Asd.mk (C2.out.put6 0 rfl (v0 := .int .i64 qC2.f0) (v1 := .int .i64 qC2.f1) (v2 := .int .i64 qC2.f2) (v3 := .int .i64 qC2.f3) (v4 := .string qC2.f4) (v5 := .slice AC2 qC2.f5.length cC2)); refine (h25 _ _ x A' c' trivial (P3.out.FK 3 rfl)).mono ?_; intro xx wC3 hx; rw [h4] at hx; obtain ⟨qC3, AC3, cC3, rfl, hr, hb⟩ := gives2_none hx; refine ⟨_, rfl, ?_⟩; have C3 := Asd.mk (P3.out.call hb hr); clear hb hr hx; obtain ⟨as30, as31, as32, as33, as34, as35, bs30, bs31, bs32, bs33, bs34, bs35⟩ := C3.out.cells6 0 rfl; obtain ⟨at30, at31, at32, at33, at34, at35, bt30, bt31, bt32, bt33, bt34, bt35⟩ := C3.out.cells6 1 rfl; obtain ⟨au30, au31, au32, au33, au34, au35, bu30, bu31, bu32, bu33, bu34, bu35⟩ := C3.out.cells6 2 rfl))
          have S8 := (C3.out.put6 0 rfl (v0 := .int .i64 qC3.f0) (v1 := .int .i64 qC3.f1) (v2 := .int .i64 qC3.f2) (v3 := .int .i64 qC3.f3) (v4 := .string qC3.f4) (v5 := .slice AC3 qC3.f5.length cC3)).put6 1 rfl (v0 := .int .i64 x.f0) (v1 := .int .i64 x.f1) (v2 := .int .i64 x.f2) (v3 := .int .i64 x.f3) (v4 := .string x.f4) (v5 := .slice A' x.f5.length c')
          refine bodyPost_ret (results_cell_row rfl _ _ g2 24 #[.int .i64 x.f0, .int .i64 x.f1, .int .i64 x.f2, .int .i64 x.f3, .string x.f4, .slice A' x.f5.length c'] (0, 0) _ rfl (S8.blk 1 rfl) Try.underlying24 rfl (by kernel_rfl)) rfl ?_
          have hfin := HK.out.2.2
          rw [Shr.done ho] at hfin
          rw [← hfin]
          exact ⟨A', c', by first | rfl | simp [*], S8.out 4 rfl, S8.below⟩
    | succ k1 =>
      have hlt : j.toNat < e.f5.length := by have := HK.out; omega
      obtain ⟨x, hx⟩ : ∃ x, e.f5[j.toNat]? = some x := ⟨_, List.getElem?_eq_getElem hlt⟩
      have hFr := Kd.F_step HF0.out (W1 := wr) (fun k hk _ => HS.out.below.block k hk.2)
      obtain ⟨ad, A', c', rfl, x0, x1, x2, x3, x4, x5, hxK⟩ := elemI hFr hx
      have HX := Asd.mk hxK
      have HXI := Asd.mk hx
      have c0 : decide (j < (e.f5.length : Int)) = true := decide_eq_true (by have := HK.out; omega)
      have p1 : (0 ≤ j) = True := eq_true HK.out.1
      have q1 : (j < (e.f5.length : Int)) = True := eq_true (by have := HK.out; omega)
      have HQ := Asd.mk (show j < (e.f5.length : Int) by have := HK.out; omega)
      clear hFr hxK hx hlt
      go_wp2_with (first
        | ((with_reducible refine gate_callee (f := 9) rfl ?_); refine goesL_ (some 20) rfl rfl Try.func9 (by kernel_rfl) rfl #[.agg #[.int .i64 x.f0, .int .i64 x.f1, .int .i64 x.f2, .int .i64 x.f3, .string x.f4, .slice A' x.f5.length c']] rfl (by (try simp only [List.map_toArray, List.map_cons, List.map_nil]); first | done | rfl) ?_; refine (h9 _ (fun k => ok k ∧ k < w.heap.size) x A' c' (HD.out x (List.mem_of_getElem? HXI.out)) HX.out).mono ?_; rintro xx w9 ⟨A9, c9, rfl, hr, hb⟩; refine ⟨_, rfl, ?_⟩; have S9 := Asd.mk (HS.out.step hb); have N9 := Asd.mk (Kd.N_below HN.out hb); have R9 := Asd.mk hr; have Z9 := Asd.mk hb.size; clear hr hb)
        | ((with_reducible refine gate_builtin (b := .append) (xs := #[.tmp 14, .tmp 21]) rfl ?_); at_builtin; refine Kd.N_append k24 (w0 := w) w.heap.size rfl (.tmp 14) (.tmp 21) 22 24 (.agg #[(.int .i64 0), (.int .i64 0), (.int .i64 0), (.int .i64 0), (.string ⟨#[]⟩), (.slice none 0 0)]) 72 rfl Try.underlying22 info24 rfl (by decide) (by omega) u3 ((e.f5.take j.toNat).map g) (g x) (cel (g x) A9 c9) (okN ok w.heap.size g1 g2) _ rfl rfl R9.out ?aK ?aF ?aO ?aB ?aS ?aL ?_; (case aK => exact fun k hk => by rcases hk with hk | hk; exact ⟨⟨.inl hk, by have := hk.2; have := G1.out; omega, by have := hk.2; have := G2.out; omega⟩, fun e => by have := Kd.N_base HN.out k e.symm; have := hk.2; omega⟩; exact ⟨⟨.inr (Nat.le_trans HS.out.below.size hk), by have := G1.out; omega, by have := G2.out; omega⟩, fun e => by have := Kd.N_lt HN.out k e.symm; omega⟩); (case aF => exact fun k hk => ⟨.inr (Nat.le_trans S9.out.below.size hk), by have := G1.out; have := Z9.out; omega, by have := G2.out; have := Z9.out; omega⟩); (case aO => exact N9.out); (case aB => exact S9.out.below); (case aS => exact S9.out.below.size); (case aL => rw [List.length_map, List.length_take]; have := HL.out; omega); intro v1 w10 ho hb hg hat; have N10 := Asd.mk ho; have S10 := Asd.mk (show Hs w w10 ok _ _ from hs_grown S9.out hb hg (fun b hb' => by rcases List.mem_cons.1 hb' with rfl | hb'; exact Kd.N_away N9.out (fun k hk => hk.2.2); rw [List.mem_singleton.1 hb']; exact Kd.N_away N9.out (fun k hk => hk.2.1)) HF0.out); clear ho hb hg hat))
      go_roundg k1
      case measure => omega
      case rel =>
        refine ⟨j + 1, ?_, ⟨?_⟩, ⟨?_⟩, S10⟩
        · have e0 : wrap64 (j + 1) = j + 1 := by have := HQ.out; have := HL.out; have := HK.out; unfold wrap64; omega
          rw [e0]
        · have := HK.out; omega
        · have e1 : e.f5.take (j + 1).toNat = e.f5.take j.toNat ++ [x] := by
            rw [show (j + 1).toNat = j.toNat + 1 by have := HK.out; omega, List.take_add_one, HXI.out]; rfl
          rw [e1, List.map_append]
          exact N10.out
end Go.Ref
end
section
open Go Go.Ref Go.Proofs Go.RowKit Go.Proofs.Ytgbpdfkobelbcaa.PSimpFolds Go.Proofs.YtgbpdfkobelbcaaW.PrintWords
namespace Go.Ref
mutual
def szE : S24 → Nat
  | ⟨_, _, _, _, _, l⟩ => szL l + 1
def szL : List S24 → Nat
  | [] => 0
  | x :: t => szE x + szL t
end
theorem szE_eq (e : S24) : szE e = szL e.f5 + 1 := by cases e; simp only [szE]
theorem szL_cons (x : S24) (t : List S24) : szL (x :: t) = szE x + szL t := by simp only [szL]
theorem szL_nil : szL [] = 0 := by simp only [szL]
theorem szE_pos (e : S24) : 0 < szE e := by rw [szE_eq]; omega
theorem szL_mem {x : S24} : ∀ {l : List S24}, x ∈ l → szE x ≤ szL l
  | y :: t, h => by
    rw [szL_cons]
    rcases List.mem_cons.1 h with rfl | h
    · omega
    · have := szL_mem h; omega
theorem szL_len : ∀ (l : List S24), l.length ≤ szL l
  | [] => by simp
  | x :: t => by rw [szL_cons, List.length_cons]; have := szL_len t; have := szE_pos x; omega
def whenX (e : S24) : Option S24 := match e.f5 with | [x] => if e.f0 = 8 ∧ x.f0 = 1 then some x else none | _ => none
theorem choice_less {e r : S24} (h : ofPair (choiceX e) = some r) : szE r < szE e ∧ (r ∈ e.f5 ∨ ∃ c ∈ e.f5, r = notX c) := by
  unfold choiceX at h
  split at h
  · split at h
    · rename_i c a b h5
      have hs : szE e = szE c + (szE a + szE b) + 1 := by rw [szE_eq, h5, szL_cons, szL_cons, szL_cons, szL_nil]; omega
      have hc := szE_pos c
      have ha := szE_pos a
      have hb := szE_pos b
      split at h
      · simp [ofPair] at h; subst h; exact ⟨by omega, .inl (by rw [h5]; simp)⟩
      · simp [ofPair] at h; subst h; exact ⟨by omega, .inl (by rw [h5]; simp)⟩
      · simp [ofPair] at h; subst h; exact ⟨by omega, .inl (by rw [h5]; simp)⟩
      · simp [ofPair] at h; subst h
        refine ⟨?_, .inr ⟨c, by rw [h5]; simp, rfl⟩⟩
        rw [szE_eq]; show szL [c] + 1 < _; rw [szL_cons, szL_nil]; omega
      · simp [ofPair] at h
    · simp [ofPair] at h
  · simp [ofPair] at h
theorem one_less {pick : T3 → T3 → T3 → T3 → Bool → Nat} {e r : S24} (h : ofPair (oneX pick e) = some r) : szE r < szE e ∧ (r ∈ e.f5 ∨ ∃ x ∈ e.f5, r ∈ x.f5) := by
  unfold oneX at h
  split at h
  · rename_i x h5
    have hs : szE e = szE x + 1 := by rw [szE_eq, h5, szL_cons, szL_nil]
    split at h
    · rename_i y h6
      have hs2 : szE x = szE y + 1 := by rw [szE_eq, h6, szL_cons, szL_nil]
      split at h
      · simp [ofPair] at h; subst h; exact ⟨by omega, .inr ⟨x, by rw [h5]; simp, by rw [h6]; simp⟩⟩
      · simp [ofPair] at h; subst h; exact ⟨by omega, .inl (by rw [h5]; simp)⟩
      · simp [ofPair] at h
    · split at h
      · simp [ofPair] at h; subst h; exact ⟨by omega, .inl (by rw [h5]; simp)⟩
      · simp [ofPair] at h
  · simp [ofPair] at h
theorem when_less {e r : S24} (h : whenX e = some r) : szE r < szE e ∧ r ∈ e.f5 := by
  unfold whenX at h
  split at h
  · rename_i x h5
    split at h
    · cases h
      exact ⟨by rw [szE_eq e, h5, szL_cons, szL_nil]; omega, by rw [h5]; simp⟩
    · cases h
  · cases h
theorem bi_less {e r : S24} (h : ofPair (biX e) = some r) : szE r < szE e ∧ r ∈ e.f5 := by
  unfold biX at h
  split at h
  · split at h
    · rename_i x y h5
      have hs : szE e = szE x + szE y + 1 := by rw [szE_eq, h5, szL_cons, szL_cons, szL_nil]; omega
      have hx := szE_pos x
      have hy := szE_pos y
      split at h
      · simp [ofPair] at h; subst h; exact ⟨by omega, by rw [h5]; simp⟩
      · simp [ofPair] at h; subst h; exact ⟨by omega, by rw [h5]; simp⟩
      · simp [ofPair] at h
    · simp [ofPair] at h
  · simp [ofPair] at h
theorem unary_eq (e : S24) : ofPair (oneX unPick e) = (match ofPair (oneX twPick e) with | some r => some r | none => whenX e) := by
  unfold oneX whenX
  split
  · rename_i x h5
    have hk : (e.f0 = 8 ∧ x.f0 = 1) ↔ (T3.of 3 8 e.f0 = .b ∧ T3.of 3 1 x.f0 = .b) := by
      unfold T3.of
      constructor
      · rintro ⟨h1, h2⟩; simp [h1, h2]
      · rintro ⟨h1, h2⟩
        constructor
        · by_cases h3 : e.f0 = 3
          · simp [h3] at h1
          · by_cases h8 : e.f0 = 8
            · exact h8
            · simp [h3, h8] at h1
        · by_cases h3 : x.f0 = 3
          · simp [h3] at h2
          · by_cases h8 : x.f0 = 1
            · exact h8
            · simp [h3, h8] at h2
    by_cases hw : e.f0 = 8 ∧ x.f0 = 1
    · have hw' := hk.1 hw
      have hq : (match e.f5 with | [x] => if e.f0 = 8 ∧ x.f0 = 1 then some x else none | _ => none) = some x := by rw [h5]; exact if_pos hw
      rw [hq]
      clear hq
      rw [hw'.1, hw'.2]
      generalize T3.of 1 2 e.f1 = u2
      generalize T3.of 1 2 x.f1 = u4
      split
      · cases u2 <;> cases u4 <;> simp [unPick, twPick, ofPair]
      · cases u2 <;> cases u4 <;> simp [unPick, twPick, ofPair]
    · have hw' : ¬ (T3.of 3 8 e.f0 = T3.b ∧ T3.of 3 1 x.f0 = T3.b) := fun h => hw (hk.2 h)
      have hq : (match e.f5 with | [x] => if e.f0 = 8 ∧ x.f0 = 1 then some x else none | _ => none) = none := by rw [h5]; exact if_neg hw
      rw [hq]
      clear hq
      generalize T3.of 3 8 e.f0 = u1 at hw' ⊢
      generalize T3.of 1 2 e.f1 = u2
      generalize T3.of 3 1 x.f0 = u3 at hw' ⊢
      generalize T3.of 1 2 x.f1 = u4
      split
      · cases u1 <;> cases u2 <;> cases u3 <;> cases u4 <;> first | (exact absurd ⟨rfl, rfl⟩ hw') | simp [unPick, twPick, ofPair]
      · cases u1 <;> cases u2 <;> cases u3 <;> cases u4 <;> first | (exact absurd ⟨rfl, rfl⟩ hw') | simp [unPick, twPick, ofPair]
  · rename_i hno
    have hq : (match e.f5 with | [x] => if e.f0 = 8 ∧ x.f0 = 1 then some x else none | _ => none) = none := by
      split
      · rename_i x h5; exact absurd h5 (hno x)
      · rfl
    rw [hq]
    simp [ofPair]
end Go.Ref
end
section
open Go Go.Ref Go.Proofs Go.RowKit Go.Proofs.Ytgbpdfkobelbcaa.PSimpFolds Go.Proofs.YtgbpdfkobelbcaaW.PrintWords Go.Proofs.YtgbpdfkobelbcaaW.PrintLast Go.Proofs.YtgbpdfkobelbcaaW.PrintMore
set_option linter.unusedSimpArgs false
namespace Go.Ref
def constR (op : Int) (l : List S24) : S24 := ⟨1, 0, (resV op (l.map S24.f2)).1, (appV op (l.map S24.f3)).1, ⟨#[]⟩, []⟩
def constOk (op : Int) (l : List S24) : Prop := (resV op (l.map S24.f2)).2 = 0 ∧ (appV op (l.map S24.f3)).2 = 0
instance (op : Int) (l : List S24) : Decidable (constOk op l) := inferInstanceAs (Decidable (_ ∧ _))
def allC (l : List S24) : Bool := l.all fun x => x.f0 == 1
def constS (e : S24) : Option S24 := if e.f0 = 3 ∧ allC e.f5 = true ∧ constOk e.f1 e.f5 then some (constR e.f1 e.f5) else none
theorem rd_at {pre : List S24} {x : S24} {t : List S24} : rd_T24 (pre ++ x :: t) (pre.length : Int) = x := by
  unfold rd_T24
  rw [Int.toNat_natCast, List.getD_eq_getElem?_getD, List.getElem?_append_right (Nat.le_refl _), Nat.sub_self]
  rfl
theorem w64n {n : Nat} (h : n ≤ 1000000) : wrap64 ((n : Int) + 1) = ((n + 1 : Nat) : Int) := by unfold wrap64; omega
theorem computed_loop (l : List S24) (hl : l.length ≤ 1000000) (a0 a1 a2 a3 : Int) (a4 : ByteArray) (a5 : List S24) : ∀ (rest pre : List S24) (k : Nat), l = pre ++ rest → rest.length + 21 ≤ k →
    sCo.l0 k (pre.map S24.f2) (pre.map S24.f3) l (l.length : Int) (pre.length : Int) a0 a1 a2 a3 a4 a5 = (if allC rest = true then some (1, 0, (resV a1 (l.map S24.f2)).1, (appV a1 (l.map S24.f3)).1, ⟨#[]⟩, [], decide (constOk a1 l)) else some (a0, a1, a2, a3, a4, a5, false)) := by
  intro rest
  induction rest with
  | nil =>
    intro pre k he hk
    rw [List.append_nil] at he
    subst he
    obtain ⟨j, rfl⟩ : ∃ j, k = j + 20 + 1 := ⟨k - 21, by simp at hk; omega⟩
    simp only [sCo.l0, Int.lt_irrefl, if_false, (resV_eq j a1 _).1, (appV_eq j a1 _).1, Option.bind_some, allC, List.all_nil, if_true, constOk]
    split
    · rename_i h; simp [h]; rfl
    · rename_i h; simp [h]
  | cons x t ih =>
    intro pre k he hk
    obtain ⟨j, rfl⟩ : ∃ j, k = j + 1 := ⟨k - 1, by omega⟩
    have hlen : l.length = pre.length + (t.length + 1) := by rw [he, List.length_append, List.length_cons]
    have h1 : (pre.length : Int) < (l.length : Int) := by omega
    have hx : rd_T24 l (pre.length : Int) = x := by rw [he]; exact rd_at
    simp only [sCo.l0, h1, if_true, show (0 : Int) ≤ (pre.length : Int) by omega, hx, Option.bind_some, List.length_map, List.length_cons, List.length_nil]
    rw [w64n (by omega), if_pos (show pre.length + (0 + 1) < 17592186044416 by omega), if_pos (show pre.length + (0 + 1) < 17592186044416 by omega)]
    by_cases hc : x.f0 = 1
    · rw [if_pos hc]
      have := ih (pre ++ [x]) j (by rw [he]; simp) (by simp at hk ⊢; omega)
      rw [List.map_append, List.map_append, List.length_append] at this
      rw [show pre.length + 1 = pre.length + [x].length from rfl]
      refine this.trans ?_
      simp [allC, hc]
    · rw [if_neg hc]
      simp [allC, hc]
theorem computed_rule (hm : Try.prog.follows .mixedOrders = true) : RuleO 44 constS (fun e => e.f5.length ≤ 1000000) := by
  intro w ok e A c hd hf
  obtain ⟨A5, c5, hcs, l5, g5⟩ := k24_openF hf
  have hA : A5 = A ∧ c5 = c := by
    have := congrArg (fun l => l[5]?) hcs
    simp only [cel] at this
    injection this with this
    injection this with h1 h2 h3
    exact ⟨h1.symm, h3.symm⟩
  obtain ⟨rfl, rfl⟩ := hA
  have hV : Kd.V k24 24 w w.heap.size (fun k_ => ok k_) (.slice A5 e.f5.length c5) e.f5 := ⟨A5, c5, rfl, l5, g5⟩
  have hloop := computed_loop e.f5 hd e.f0 e.f1 e.f2 e.f3 e.f4 e.f5 e.f5 [] (e.f5.length + 21) rfl (Nat.le_refl _)
  by_cases h3 : e.f0 = 3
  · by_cases ha : allC e.f5 = true
    · rw [if_pos ha] at hloop
      refine (sCo.calls (e.f5.length + 21) e.f0 e.f1 e.f2 e.f3 e.f4 ok A5 c5 e.f5 _ _ _ _ _ _ _ w hV ⟨h3⟩ (by unfold sCo.f; rw [if_pos h3]; exact hloop)).mono ?_
      rintro x w' ⟨v5, rfl, ⟨A6, c6, rfl, l6, g6⟩, hb⟩
      refine ⟨constR e.f1 e.f5, A6, c6, ?_, k24_mkF _ _ _ l6 g6, ?_, hb⟩
      · by_cases hok : constOk e.f1 e.f5
        · simp [constS, h3, ha, hok, constR]
        · simp [constS, h3, ha, hok, constR]
      · intro r' hr
        unfold constS at hr
        split at hr
        · exact (Option.some.inj hr).symm
        · cases hr
    · rw [if_neg ha] at hloop
      refine (sCo.calls (e.f5.length + 21) e.f0 e.f1 e.f2 e.f3 e.f4 ok A5 c5 e.f5 _ _ _ _ _ _ _ w hV ⟨h3⟩ (by unfold sCo.f; rw [if_pos h3]; exact hloop)).mono ?_
      rintro x w' ⟨v5, rfl, ⟨A6, c6, rfl, l6, g6⟩, hb⟩
      refine ⟨e, A6, c6, ?_, k24_mkF _ _ _ l6 g6, ?_, hb⟩
      · simp [constS, ha]
      · intro r' hr; simp [constS, ha] at hr
  · have hR : Pa.Rd w ok ⟨e, A5, c5⟩ := ⟨l5, g5⟩
    refine (rule0 (b := false) (K := 3) (h := ⟨.s [3], .s [], .s [], .s [], .v⟩) hm hR ⟨by show e.f0 ∉ [3]; simp [h3], no_int _, no_int _, no_int _, trivial⟩ (by kernel_rfl)).mono ?_
    intro x w' hx
    have := gives2_of hx
    rwa [show ofPair (e, false) = constS e by simp [ofPair, constS, h3]] at this
theorem constant_loop (l : List S24) (hl : l.length ≤ 1000000) (a0 a1 a2 a3 : Int) (a4 : ByteArray) : ∀ (rest pre : List S24) (k : Nat), l = pre ++ rest → rest.length + 21 ≤ k →
    r20constant.l0 k (pre.map S24.f2) (pre.map S24.f3) (pre.length : Int) a0 a1 a2 a3 a4 l = (if allC rest = true ∧ constOk a1 l then some (1, 0, (resV a1 (l.map S24.f2)).1, (appV a1 (l.map S24.f3)).1, ⟨#[]⟩, [], true) else some (a0, a1, a2, a3, a4, l, false)) := by
  intro rest
  induction rest with
  | nil =>
    intro pre k he hk
    rw [List.append_nil] at he
    subst he
    obtain ⟨j, rfl⟩ : ∃ j, k = j + 20 + 1 := ⟨k - 21, by simp at hk; omega⟩
    simp only [r20constant.l0, Int.lt_irrefl, if_false, (resV_eq j a1 _).2, (appV_eq j a1 _).2, Option.bind_some, allC, List.all_nil, true_and, constOk]
    by_cases h1 : (resV a1 (List.map S24.f2 l)).2 = 0
    · by_cases h2 : (appV a1 (List.map S24.f3 l)).2 = 0
      · simp [h1, h2]
      · simp [h1, h2]
    · simp [h1]
  | cons x t ih =>
    intro pre k he hk
    obtain ⟨j, rfl⟩ : ∃ j, k = j + 1 := ⟨k - 1, by omega⟩
    have hlen : l.length = pre.length + (t.length + 1) := by rw [he, List.length_append, List.length_cons]
    have h1 : (pre.length : Int) < (l.length : Int) := by omega
    have hx : rd_T24 l (pre.length : Int) = x := by rw [he]; exact rd_at
    simp only [r20constant.l0, h1, if_true, show (0 : Int) ≤ (pre.length : Int) by omega, hx, List.length_map]
    rw [w64n (by omega), if_pos (show pre.length < 17592186044416 by omega), if_pos (show pre.length < 17592186044416 by omega)]
    by_cases hc : x.f0 = 1
    · rw [if_pos hc]
      have := ih (pre ++ [x]) j (by rw [he]; simp) (by simp at hk ⊢; omega)
      rw [List.map_append, List.map_append, List.length_append] at this
      rw [show pre.length + 1 = pre.length + [x].length from rfl]
      refine this.trans ?_
      simp [allC, hc]
    · rw [if_neg hc]
      simp [allC, hc]
theorem constant_rule (hm : Try.prog.follows .mixedOrders = true) : RuleO 22 constS (fun e => e.f5.length ≤ 1000000) := by
  intro w ok e A c hd hf
  obtain ⟨A5, c5, hcs, l5, g5⟩ := k24_openF hf
  have hA : A5 = A ∧ c5 = c := by
    have := congrArg (fun l => l[5]?) hcs
    simp only [cel] at this
    injection this with this
    injection this with h1 h2 h3
    exact ⟨h1.symm, h3.symm⟩
  obtain ⟨rfl, rfl⟩ := hA
  by_cases h3 : e.f0 = 3
  · have hV : Kd.V k24 24 w w.heap.size (fun k_ => ok k_) (.slice A5 e.f5.length c5) e.f5 := ⟨A5, c5, rfl, l5, g5⟩
    have hloop := constant_loop e.f5 hd e.f0 e.f1 e.f2 e.f3 e.f4 e.f5 [] (e.f5.length + 21) rfl (Nat.le_refl _)
    by_cases ha : allC e.f5 = true ∧ constOk e.f1 e.f5
    · rw [if_pos ha] at hloop
      refine (r20constant.calls (e.f5.length + 21) e.f0 e.f1 e.f2 e.f3 e.f4 ok A5 c5 e.f5 _ _ _ _ _ _ _ w hV ⟨h3⟩ (by unfold r20constant.f; rw [if_pos h3]; exact hloop)).mono ?_
      rintro x w' ⟨v5, rfl, ⟨A6, c6, rfl, l6, g6⟩, hb⟩
      refine ⟨constR e.f1 e.f5, A6, c6, ?_, k24_mkF _ _ _ l6 g6, ?_, hb⟩
      · simp [constS, h3, ha, constR]
      · intro r' hr
        unfold constS at hr
        split at hr
        · exact (Option.some.inj hr).symm
        · cases hr
    · rw [if_neg ha] at hloop
      refine (r20constant.calls (e.f5.length + 21) e.f0 e.f1 e.f2 e.f3 e.f4 ok A5 c5 e.f5 _ _ _ _ _ _ _ w hV ⟨h3⟩ (by unfold r20constant.f; rw [if_pos h3]; exact hloop)).mono ?_
      rintro x w' ⟨v5, rfl, ⟨A6, c6, rfl, l6, g6⟩, hb⟩
      refine ⟨e, A6, c6, ?_, k24_mkF _ _ _ l6 g6, ?_, hb⟩
      · simp [constS, ha]
      · intro r' hr; simp [constS, ha] at hr
  · have hR : Pa.Rd w ok ⟨e, A5, c5⟩ := ⟨l5, g5⟩
    refine (rule0 (b := false) (K := 3) (h := ⟨.s [3], .s [], .s [], .s [], .v⟩) hm hR ⟨by show e.f0 ∉ [3]; simp [h3], no_int _, no_int _, no_int _, trivial⟩ (by kernel_rfl)).mono ?_
    intro x w' hx
    have := gives2_of hx
    rwa [show ofPair (e, false) = constS e by simp [ofPair, constS, h3]] at this
theorem resV_nil (op : Int) : (resV op []).2 ≠ 0 := by
  have h : vRe.f 20 op [] = some (0, 2) ∨ vRe.f 20 op [] = some (0, 9) := by
    rcases ops_of op with rfl | rfl | rfl | rfl | rfl | rfl | rfl | rfl | rfl | rfl | rfl | rfl | rfl | rfl | rfl | rfl | h
    all_goals first
      | (right; simp [vRe.f, vGr.f, vGr.j0, vGr.j1, vGr.j2]; done)
      | (left; simp [vRe.f, vGr.f, vGr.j0, vGr.j1, vGr.j2, show ¬ op = 1 by omega, show ¬ op = 2 by omega, show ¬ op = 3 by omega, show ¬ op = 4 by omega, show ¬ op = 5 by omega, show ¬ op = 6 by omega, show ¬ op = 7 by omega, show ¬ op = 8 by omega, show ¬ op = 9 by omega, show ¬ op = 10 by omega, show ¬ op = 11 by omega, show ¬ op = 12 by omega, show ¬ op = 13 by omega, show ¬ op = 14 by omega, show ¬ op = 15 by omega, show ¬ op = 16 by omega]; done)
  unfold resV
  rcases h with h | h <;> rw [h] <;> decide
theorem const_less {e r : S24} (h : constS e = some r) : szE r < szE e ∧ r.f5 = [] ∧ r.f0 = 1 := by
  unfold constS at h
  split at h
  · rename_i hc
    cases h
    refine ⟨?_, rfl, rfl⟩
    cases h5 : e.f5 with
    | nil => rw [h5] at hc; exact absurd hc.2.2.1 (resV_nil e.f1)
    | cons x t =>
      rw [szE_eq, szE_eq, h5, szL_cons]
      show szL [] + 1 < _
      have := szE_pos x
      rw [szL_nil]; omega
  · cases h
end Go.Ref
end
section
open Go Go.Ref Go.Proofs Go.RowKit Go.Proofs.Ytgbpdfkobelbcaa.PSimpFolds Go.Proofs.YtgbpdfkobelbcaaW.PrintWords
namespace Go.Ref
def onceX (x : S24) : Option S24 := match constS x with | some y => some y | none => match ofPair (choiceX x) with | some y => some y | none => match ofPair (oneX twPick x) with | some y => some y | none => match whenX x with | some y => some y | none => ofPair (biX x)
theorem once_ref : first4 constS (fun e => ofPair (choiceX e)) (fun e => ofPair (oneX unPick e)) (fun e => ofPair (biX e)) = onceX := by
  funext x
  unfold first4 onceX
  dsimp only
  rw [unary_eq]
  cases constS x with
  | some y => rfl
  | none =>
    cases ofPair (choiceX x) with
    | some y => rfl
    | none =>
      cases ofPair (oneX twPick x) with
      | some y => rfl
      | none => cases whenX x <;> rfl
theorem once_cases {x y : S24} (h : onceX x = some y) : constS x = some y ∨ ofPair (choiceX x) = some y ∨ ofPair (oneX twPick x) = some y ∨ whenX x = some y ∨ ofPair (biX x) = some y := by
  unfold onceX at h
  split at h
  · rename_i z hz; cases h; exact .inl hz
  · split at h
    · rename_i z hz; cases h; exact .inr (.inl hz)
    · split at h
      · rename_i z hz; cases h; exact .inr (.inr (.inl hz))
      · split at h
        · rename_i z hz; cases h; exact .inr (.inr (.inr (.inl hz)))
        · exact .inr (.inr (.inr (.inr h)))
theorem once_less {x y : S24} (h : onceX x = some y) : szE y < szE x := by
  rcases once_cases h with h | h | h | h | h
  · exact (const_less h).1
  · exact (choice_less h).1
  · exact (one_less h).1
  · exact (when_less h).1
  · exact (bi_less h).1
def Sm (x : S24) : Prop := szE x ≤ 1000000
theorem once_shr : Shr onceX szE Sm := ⟨fun _ _ _ h => once_less h, fun x y hx h => by have := once_less h; unfold Sm at *; omega⟩
theorem Sm.len {x : S24} (h : Sm x) : x.f5.length ≤ 1000000 := by have := szL_len x.f5; unfold Sm at h; rw [szE_eq] at h; omega
theorem once_rule (hm : Try.prog.follows .mixedOrders = true) : RuleO 21 onceX Sm := by
  intro w ok e A c hd hf
  have h44 := computed_rule hm
  have h45 := rule_O (choice_rule hm ch45)
  have h46 := rule_O (twice_rule hm)
  have hd' := hd.len
  unfold onceX
  cases h1 : constS e with
  | some r => exact once_1 h44 h45 h46 hd' hf h1
  | none =>
    cases h2 : ofPair (choiceX e) with
    | some r => exact once_2 h44 h45 h46 hd' hf h1 h2
    | none =>
      cases h3 : ofPair (oneX twPick e) with
      | some r => exact once_3 h44 h45 h46 hd' hf h1 h2 h3
      | none =>
        by_cases h8 : e.f0 = 8
        · by_cases h5 : ∃ y, e.f5 = [y]
          · obtain ⟨y, h5⟩ := h5
            by_cases hy : y.f0 = 1
            · have hq : whenX e = some y := by unfold whenX; rw [h5]; exact if_pos ⟨h8, hy⟩
              rw [hq]
              exact once_4 h44 h45 h46 hd' hf h1 h2 h3 h8 h5 hy
            · have hq : whenX e = none := by unfold whenX; rw [h5]; exact if_neg (fun h => hy h.2)
              rw [hq]
              exact once_7 hm h44 h45 h46 hd' hf h1 h2 h3 h8 h5 hy
          · have hq : whenX e = none := by
              unfold whenX
              split
              · rename_i x hx; exact absurd ⟨x, hx⟩ h5
              · rfl
            rw [hq]
            refine once_6 hm h44 h45 h46 hd' hf h1 h2 h3 h8 (fun hl => h5 ?_)
            match h : e.f5, hl with
            | [y], _ => exact ⟨y, rfl⟩
        · have hq : whenX e = none := by
            unfold whenX
            split
            · exact if_neg (fun h => h8 h.1)
            · rfl
          rw [hq]
          exact once_5 hm h44 h45 h46 hd' hf h1 h2 h3 h8
mutual
def foldX : S24 → S24
  | ⟨a, b, c, d, e, l⟩ => foldL onceX (szE ⟨a, b, c, d, e, foldXs l⟩) ⟨a, b, c, d, e, foldXs l⟩
def foldXs : List S24 → List S24
  | [] => []
  | x :: t => foldX x :: foldXs t
end
theorem foldXs_map : ∀ l, foldXs l = l.map foldX
  | [] => by simp only [foldXs, List.map_nil]
  | x :: t => by simp only [foldXs, List.map_cons, foldXs_map t]
theorem foldX_eq (e : S24) : foldX e = foldL onceX (szE { e with f5 := e.f5.map foldX }) { e with f5 := e.f5.map foldX } := by
  obtain ⟨a, b, c, d, f, l⟩ := e
  simp only [foldX, foldXs_map]
theorem foldL_le : ∀ (n : Nat) (x : S24), szE (foldL onceX n x) ≤ szE x
  | 0, x => Nat.le_refl _
  | n + 1, x => by
    show szE (match onceX x with | none => x | some y => foldL onceX n y) ≤ szE x
    cases h : onceX x with
    | none => exact Nat.le_refl _
    | some y => have h1 := once_less h; have h2 := foldL_le n y; show szE (foldL onceX n y) ≤ _; omega
mutual
theorem foldX_le : ∀ (e : S24), szE (foldX e) ≤ szE e
  | ⟨a, b, c, d, e, l⟩ => by
    have h := foldXs_le l
    simp only [foldX]
    refine Nat.le_trans (foldL_le _ _) ?_
    simp only [szE]; omega
theorem foldXs_le : ∀ (l : List S24), szL (foldXs l) ≤ szL l
  | [] => by simp only [foldXs]; omega
  | x :: t => by have h1 := foldX_le x; have h2 := foldXs_le t; simp only [foldXs, szL]; omega
end
theorem map_sz {e : S24} (h : Sm e) : Sm { e with f5 := e.f5.map foldX } := by
  have h1 := foldXs_le e.f5
  rw [foldXs_map] at h1
  unfold Sm at *
  rw [szE_eq] at *
  show szL (e.f5.map foldX) + 1 ≤ _
  omega
theorem fold_both (hm : Try.prog.follows .mixedOrders = true) : ∀ n, FunE 7 foldX (fun e => szE e ≤ n ∧ Sm e) ∧ FunE 9 foldX (fun e => szE e ≤ n ∧ Sm e) := by
  intro n
  induction n with
  | zero => exact ⟨fun w ok e A c hd => by have := szE_pos e; have := hd.1; omega, fun w ok e A c hd => by have := szE_pos e; have := hd.1; omega⟩
  | succ n ih =>
    have hel : ∀ e : S24, szE e ≤ n + 1 ∧ Sm e → ∀ x ∈ e.f5, szE x ≤ n ∧ Sm x := by
      intro e he x hx
      have h1 := szL_mem hx
      have h2 := he.1
      have h3 := he.2
      unfold Sm at *
      rw [szE_eq] at h2 h3
      exact ⟨by omega, by omega⟩
    refine ⟨fun w ok e A c hd hf => ?_, fun w ok e A c hd hf => ?_⟩
    · rw [foldX_eq e]
      exact fold7_calls (once_rule hm) once_shr ih.1 (hel e hd) hd.2.len (map_sz hd.2) hf
    · rw [foldX_eq e]
      have := fold9_calls (g := foldX) (m := szE) (P := Sm) (fun w ok e A c h hf => constant_rule hm w ok e A c h.len hf) (rule_O (choice_rule hm ch23)) (rule_O (unary_rule hm)) (fun w ok e A c _ hf => ((bi_rule hm bi25) w ok e (cel e A c).toArray [] hf rfl).mono fun _ _ hg => gives2_of hg) (by rw [once_ref]; exact once_shr) ih.2 (hel e hd) hd.2.len (map_sz hd.2) hf
      rwa [once_ref] at this
theorem fold7_rule (hm : Try.prog.follows .mixedOrders = true) : FunE 7 foldX Sm := fun w ok e A c hd hf => (fold_both hm (szE e)).1 w ok e A c ⟨Nat.le_refl _, hd⟩ hf
theorem fold9_rule (hm : Try.prog.follows .mixedOrders = true) : FunE 9 foldX Sm := fun w ok e A c hd hf => (fold_both hm (szE e)).2 w ok e A c ⟨Nat.le_refl _, hd⟩ hf
end Go.Ref
end
section
open Go Go.Ref Go.Proofs Go.RowKit
set_option maxRecDepth 100000
namespace Go.Ref
theorem lives_run : runB Try.prog 6 = some true := by kernel_rfl
theorem lives_calls (hm : Try.prog.follows .mixedOrders = true) (w : World) : Calls Try.prog 6 #[] w fun e w' => e = .returned (.bool true) ∧ Below w.heap.size w w' := by
  obtain ⟨w', h, h1, h2, h3, h4, h5⟩ := runB_ok hm lives_run w
  intro cs
  obtain ⟨fr, g1, g2, g3⟩ := h cs
  exact ⟨.returned (.bool true), w', fr, ⟨rfl, ⟨h3, h4, h5, h1, h2⟩⟩, g1, g2, g3⟩
end Go.Ref
end
section
open Go Go.Ref Go.Proofs Go.RowKit Go.Proofs.YtgbpdfkobelbcaaW.PrintWords Go.Proofs.YtgbpdfkobelbcaaW.PrintLast Go.Proofs.YtgbpdfkobelbcaaW.PrintMore
namespace Go.Proofs.Ytgbpdfkobelbcaa.PSimpFolds
theorem law_mixed : Try.prog.follows .mixedOrders = true := by kernel_rfl
def simp_Fold.f (_ : Nat) (a0_0 : Int) (a0_1 : Int) (a0_2 : Int) (a0_3 : Int) (a0_4 : ByteArray) (l0_5 : List S24) : Option (Int × Int × Int × Int × ByteArray × List S24) :=
  if szE ⟨a0_0, a0_1, a0_2, a0_3, a0_4, l0_5⟩ ≤ 1000000 then
    some ((foldX ⟨a0_0, a0_1, a0_2, a0_3, a0_4, l0_5⟩).f0, (foldX ⟨a0_0, a0_1, a0_2, a0_3, a0_4, l0_5⟩).f1, (foldX ⟨a0_0, a0_1, a0_2, a0_3, a0_4, l0_5⟩).f2, (foldX ⟨a0_0, a0_1, a0_2, a0_3, a0_4, l0_5⟩).f3, (foldX ⟨a0_0, a0_1, a0_2, a0_3, a0_4, l0_5⟩).f4, (foldX ⟨a0_0, a0_1, a0_2, a0_3, a0_4, l0_5⟩).f5)
  else none
def r20Fold.f := simp_Fold.f
def l20lives.f : Option Bool := some true
theorem fold_stub {f : FuncId} (hF : FunE f foldX Sm) (k : Nat) (a0_0 : Int) (a0_1 : Int) (a0_2 : Int) (a0_3 : Int) (a0_4 : ByteArray) (P0_5_ : Nat → Prop) (A0_5 : Option Addr) (c0_5 : Nat) (l0_5 : List S24) (r1 : Int) (r2 : Int) (r3 : Int) (r4 : Int) (r5 : ByteArray) (r6 : List S24) (w : World) (hs0_5 : Kd.V k24 24 w w.heap.size (fun k_ => P0_5_ k_) (.slice A0_5 l0_5.length c0_5) l0_5) (h : simp_Fold.f k a0_0 a0_1 a0_2 a0_3 a0_4 l0_5 = some (r1, r2, r3, r4, r5, r6)) :
    Calls Try.prog f #[.agg #[.int .i64 a0_0, .int .i64 a0_1, .int .i64 a0_2, .int .i64 a0_3, .string a0_4, .slice A0_5 l0_5.length c0_5]] w fun e w' => ∃ v5_ : Value, e = .returned (.agg #[.int .i64 r1, .int .i64 r2, .int .i64 r3, .int .i64 r4, .string r5, v5_]) ∧ Kd.V k24 24 w' w.heap.size (fun k_ => (P0_5_ k_ ∨ w.heap.size ≤ k_)) v5_ r6 ∧ Below w.heap.size w w' := by
  unfold simp_Fold.f at h
  split at h
  · rename_i hs
    simp only [Option.some.injEq, Prod.mk.injEq] at h
    obtain ⟨rfl, rfl, rfl, rfl, rfl, rfl⟩ := h
    obtain ⟨_, hl, hf⟩ := Kd.V_at hs0_5
    refine (hF w P0_5_ ⟨a0_0, a0_1, a0_2, a0_3, a0_4, l0_5⟩ A0_5 c0_5 hs (k24_mkF w _ ⟨a0_0, a0_1, a0_2, a0_3, a0_4, l0_5⟩ hl hf)).mono ?_
    rintro x w' ⟨A, c, rfl, hk, hb⟩
    obtain ⟨A5, c5, hcs, l5, g5⟩ := k24_openF hk
    have hA : A5 = A ∧ c5 = c := by
      have := congrArg (fun l => l[5]?) hcs
      simp only [cel] at this
      injection this with this
      injection this with h1 h2 h3
      exact ⟨h1.symm, h3.symm⟩
    obtain ⟨rfl, rfl⟩ := hA
    exact ⟨_, rfl, Kd.V_mk l5 g5, hb⟩
  · cases h
theorem simp_Fold.calls (k : Nat) (a0_0 : Int) (a0_1 : Int) (a0_2 : Int) (a0_3 : Int) (a0_4 : ByteArray) (P0_5_ : Nat → Prop) (A0_5 : Option Addr) (c0_5 : Nat) (l0_5 : List S24) (r1 : Int) (r2 : Int) (r3 : Int) (r4 : Int) (r5 : ByteArray) (r6 : List S24) (w : World) (hs0_5 : Kd.V k24 24 w w.heap.size (fun k_ => P0_5_ k_) (.slice A0_5 l0_5.length c0_5) l0_5) (h : simp_Fold.f k a0_0 a0_1 a0_2 a0_3 a0_4 l0_5 = some (r1, r2, r3, r4, r5, r6)) :
    Calls Try.prog 7 #[.agg #[.int .i64 a0_0, .int .i64 a0_1, .int .i64 a0_2, .int .i64 a0_3, .string a0_4, .slice A0_5 l0_5.length c0_5]] w fun e w' => ∃ v5_ : Value, e = .returned (.agg #[.int .i64 r1, .int .i64 r2, .int .i64 r3, .int .i64 r4, .string r5, v5_]) ∧ Kd.V k24 24 w' w.heap.size (fun k_ => (P0_5_ k_ ∨ w.heap.size ≤ k_)) v5_ r6 ∧ Below w.heap.size w w' :=
  fold_stub (fold7_rule law_mixed) k a0_0 a0_1 a0_2 a0_3 a0_4 P0_5_ A0_5 c0_5 l0_5 r1 r2 r3 r4 r5 r6 w hs0_5 h
theorem r20Fold.calls (k : Nat) (a0_0 : Int) (a0_1 : Int) (a0_2 : Int) (a0_3 : Int) (a0_4 : ByteArray) (P0_5_ : Nat → Prop) (A0_5 : Option Addr) (c0_5 : Nat) (l0_5 : List S24) (r1 : Int) (r2 : Int) (r3 : Int) (r4 : Int) (r5 : ByteArray) (r6 : List S24) (w : World) (hs0_5 : Kd.V k24 24 w w.heap.size (fun k_ => P0_5_ k_) (.slice A0_5 l0_5.length c0_5) l0_5) (h : r20Fold.f k a0_0 a0_1 a0_2 a0_3 a0_4 l0_5 = some (r1, r2, r3, r4, r5, r6)) :
    Calls Try.prog 9 #[.agg #[.int .i64 a0_0, .int .i64 a0_1, .int .i64 a0_2, .int .i64 a0_3, .string a0_4, .slice A0_5 l0_5.length c0_5]] w fun e w' => ∃ v5_ : Value, e = .returned (.agg #[.int .i64 r1, .int .i64 r2, .int .i64 r3, .int .i64 r4, .string r5, v5_]) ∧ Kd.V k24 24 w' w.heap.size (fun k_ => (P0_5_ k_ ∨ w.heap.size ≤ k_)) v5_ r6 ∧ Below w.heap.size w w' :=
  fold_stub (fold9_rule law_mixed) k a0_0 a0_1 a0_2 a0_3 a0_4 P0_5_ A0_5 c0_5 l0_5 r1 r2 r3 r4 r5 r6 w hs0_5 h
theorem l20lives.calls (r : Bool) (w : World) (h : l20lives.f = some r) :
    Calls Try.prog 6 #[] w fun e w' => e = .returned (.bool r) ∧ Below w.heap.size w w' := by
  cases h
  exact lives_calls law_mixed w
end Go.Proofs.Ytgbpdfkobelbcaa.PSimpFolds
end
section
open Go Go.Ref Go.Proofs Go.RowKit Go.Proofs.Ytgbpdfkobelbcaa.PSimpFolds Go.Proofs.YtgbpdfkobelbcaaW.PrintWords
set_option linter.unusedSimpArgs false
namespace Go.Ref
theorem w64i {n : Int} (h0 : -1000000 ≤ n) (h1 : n ≤ 1000000000) : wrap64 n = n := by unfold wrap64; omega
theorem same_loop (N : Nat) (ih : ∀ (x : S24) (k : Nat), szE x ≤ N → szE x ≤ 1000000 → 3 * szE x ≤ k → r06Same.f k x.f0 x.f1 x.f2 x.f3 x.f4 x.f5 x.f0 x.f1 x.f2 x.f3 x.f4 x.f5 = some true) (a0 a1 a2 a3 : Int) (a4 : ByteArray) (l : List S24) (hN : szL l ≤ N) (hS : szL l ≤ 1000000) :
    ∀ (rest pre : List S24) (k : Nat), l = pre ++ rest → 3 * szL rest + 1 ≤ k → r06Same.l0 k (pre.length : Int) a0 a1 a2 a3 a4 l a0 a1 a2 a3 a4 l = some true := by
  intro rest
  induction rest with
  | nil =>
    intro pre k he hk
    rw [List.append_nil] at he
    subst he
    obtain ⟨j, rfl⟩ : ∃ j, k = j + 1 := ⟨k - 1, by omega⟩
    simp only [r06Same.l0, Int.lt_irrefl, if_false]
  | cons x t ihr =>
    intro pre k he hk
    rw [szL_cons] at hk
    have hx0 := szE_pos x
    obtain ⟨j, rfl⟩ : ∃ j, k = j + 1 := ⟨k - 1, by omega⟩
    have hmem : szE x ≤ szL l := szL_mem (by rw [he]; simp)
    have hlen : l.length = pre.length + (t.length + 1) := by rw [he, List.length_append, List.length_cons]
    have hl := szL_len l
    have h1 : (pre.length : Int) < (l.length : Int) := by omega
    have hx : rd_T24 l (pre.length : Int) = x := by rw [he]; exact rd_at
    simp only [r06Same.l0, h1, if_true, show (0 : Int) ≤ (pre.length : Int) by omega, hx, ih x j (by omega) (by omega) (by omega), Option.bind_some]
    rw [w64i (by omega) (by omega)]
    have := ihr (pre ++ [x]) j (by rw [he]; simp) (by omega)
    rw [List.length_append] at this
    have e2 : ((pre.length + [x].length : Nat) : Int) = (pre.length : Int) + 1 := by simp
    rw [e2] at this
    exact this
theorem same_all : ∀ (N : Nat) (x : S24) (k : Nat), szE x ≤ N → szE x ≤ 1000000 → 3 * szE x ≤ k → r06Same.f k x.f0 x.f1 x.f2 x.f3 x.f4 x.f5 x.f0 x.f1 x.f2 x.f3 x.f4 x.f5 = some true := by
  intro N
  induction N with
  | zero => intro x k h; have := szE_pos x; omega
  | succ N ih =>
    intro x k h1 h2 hk
    rw [szE_eq] at h1 h2 hk
    obtain ⟨j, rfl⟩ : ∃ j, k = j + 1 + 1 := ⟨k - 2, by omega⟩
    have h0 : ((x.f5.length : Int) != (x.f5.length : Int)) = false := by simp
    simp only [r06Same.f, if_true, h0, r06Same.j0, Bool.false_eq_true, if_false]
    exact same_loop N ih x.f0 x.f1 x.f2 x.f3 x.f4 x.f5 (by omega) (by omega) x.f5 [] j rfl (by omega)
end Go.Ref
end
