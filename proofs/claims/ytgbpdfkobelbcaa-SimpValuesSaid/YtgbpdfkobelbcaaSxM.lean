/- PROVED: the law SimpValues: folding an operator of constants gives the value of the layer of operators, or what the folding of the reference gives; no condition beside those of the given statement. -/
import Derived.Test.YtgbpdfkobelbcaaSxK
import Derived.Below
import Derived.Deep.Draws
import Derived.Deep.AppendLies
import Derived.Maps.AppendAt
import Derived.OwnWalk
import Derived.Laws.BytesArg
import Derived.Laws.MakeOwn
import Derived.Laws.OwnMore
import Derived.Deep.OwnRows
import Derived.Tactics
import Derived.Lib.ConvBytes
import Derived.Laws.Slices
import Derived.WalkKit
import Derived.KernelRfl
import Derived.RowKit3
import Derived.Deep.LoopGhost
import Derived.Deep.QuietTactic
import Derived.BigQuiet
import Derived.WideLaws
import Derived.Deep.DeepCutAuto
import Derived.Deep.CutBlock
import Derived.Deep.RegionHeld3
import Derived.Laws.Rows
import Derived.Lib.AppendStr
import Derived.ArgAppend
import Derived.Laws.IdiomCopy
import Derived.RowKit
import Derived.Test.YtgbpdfkobelbcaaProg
import Derived.OrdersHeld
import Derived.Laws.BitsLemmas
import Derived.Test.YtgbpdfkobelbcaaRows
import Derived.ProofKit
import Derived.OpenShut
import Derived.ShutString
import Derived.ChangeOld
import Derived.SizedLaws
section
set_option linter.unusedVariables false
set_option linter.unusedSimpArgs false
namespace Go.Proofs.YtgbpdfkobelbcaaW.PrintWords
open Go.RowKit
theorem add_plain (g j : Nat) : (⟨g, 0, none⟩ : Addr).add j = ⟨g, j, none⟩ := by unfold Addr.add; split <;> simp_all
theorem own_slice {w : World} {base n : Nat} {e : TypeId} {size : Nat} {v : Value} {xs : List Value} (h : w.ownsRow base e size v n xs) : ∃ A c, v = .slice A n c := by
  rcases h.2 with ⟨rfl, rfl⟩ | ⟨g, cap, cur, rfl, _⟩
  · exact ⟨none, 0, rfl⟩
  · exact ⟨_, cap, rfl⟩
section
variable {P : Program} {ops : Array Oper} {rest : List Oper} {o : Oper} {a : Act} {Q : Exit → Act → World → Prop}
end
section
variable {P : Program}
end
section
variable {P : Program} {ops : Array Oper} {rest : List Oper} {o : Oper} {a : Act} {Q : Exit → Act → World → Prop}
end
section
variable {P : Program} {ops : Array Oper} {rest : List Oper} {o : Oper} {a : Act} {Q : Exit → Act → World → Prop}
end
section
variable {P : Program} {ops : Array Oper} {o : Oper} {a : Act} {Q : Exit → Act → World → Prop} {K : Act → World → Prop}
end
section
variable {α : Type} {enc : α → Value} {d : α}
end
section
variable {α : Type} {P : Program} {ops : Array Oper} {rest : List Oper} {o : Oper} {a : Act} {Q : Exit → Act → World → Prop}
end
section
variable {P : Program}
end
section
variable {α : Type} {R R' : α → List Value → Prop} {e : TypeId} {size : Nat} {w w1 : World} {base : Nat} {v : Value} {ps : List α}
end
section
variable {P : Program} {ops : Array Oper} {rest : List Oper} {o : Oper} {a : Act} {Q : Exit → Act → World → Prop} {α : Type} {R : α → List Value → Prop}
end
section
variable {P : Program} {ops : Array Oper} {o : Oper} {a : Act} {Q : Exit → Act → World → Prop} {K : Act → World → Prop} {α : Type} {R : α → List Value → Prop}
end
section
variable {α : Type} {P : Program}
end
section
variable {P : Program} {ops : Array Oper} {rest : List Oper} {o : Oper} {a : Act} {Q : Exit → Act → World → Prop}
end
namespace Kd
section
variable {α : Type} {d : Kd α} {e : Nat} {w w1 : World} {base : Nat} {ok ok' : Nat → Prop} {v : Value} {xs : List α}
end
section
variable {P : Program} {ops : Array Oper} {rest : List Oper} {o : Oper} {a : Act} {Q : Exit → Act → World → Prop} {α : Type}
end
section
variable {P : Program} {ops : Array Oper} {o : Oper} {a : Act} {Q : Exit → Act → World → Prop} {Kc : Act → World → Prop} {α : Type}
end
end Kd
namespace Kd
section
variable {α : Type} {F : Kd α → Kd α} {sz : Nat} {E : List Nat} {hs : ∀ n, (upto F sz E n).sz = sz} {hE : ∀ n q, q ∈ (upto F sz E n).E → q ∈ E}
theorem upto_M (hm : Mono F) (hs : ∀ n, (upto F sz E n).sz = sz) : ∀ n {w base ok x cs}, (upto F sz E n).M w base ok x cs → (upto F sz E (n + 1)).M w base ok x cs
  | 0, _, _, _, _, _, h => h.elim
  | n + 1, _, _, _, _, _, h => hm.M _ _ (by rw [hs n, hs (n + 1)]) (fun _ _ _ _ _ hk => upto_M hm hs n hk) _ _ _ _ _ h
theorem upto_M_le (hm : Mono F) (hs : ∀ n, (upto F sz E n).sz = sz) {n m : Nat} (hnm : n ≤ m) {w base ok x cs} (h : (upto F sz E n).M w base ok x cs) : (upto F sz E m).M w base ok x cs := by
  obtain ⟨j, rfl⟩ := Nat.exists_eq_add_of_le hnm
  induction j with
  | zero => exact h
  | succ j ih => exact upto_M hm hs _ (ih (by omega))
theorem fix_R {n : Nat} {e : Nat} {w : World} {base : Nat} {ok : Nat → Prop} {v : Value} {xs : List α} (h : (upto F sz E n).R e w base ok v xs) : (fix F sz E hs hE).R e w base ok v xs := R_imp (d' := fix F sz E hs hE) (hs n) (fun w base ok x cs hp => (⟨n, hp⟩ : ∃ n, (upto F sz E n).M w base ok x cs)) h
theorem reps_bounded {α : Type} {R : Nat → α → List Value → Prop} (hR : ∀ n m p c, n ≤ m → R n p c → R m p c) {size : Nat} {ps : List α} {cs : List Value} (h : Reps (fun p c => ∃ n, R n p c) size ps cs) : ∃ N, Reps (R N) size ps cs := by
  obtain ⟨N, hN⟩ := bounded (P := fun n j => ∀ p, ps[j]? = some p → R n p ((cs.drop (j * size)).take size)) (fun n m j hnm hp p hj => hR n m p _ hnm (hp p hj)) ps.length
    (fun j hj => by
      obtain ⟨n, hn⟩ := h.2 j _ (List.getElem?_eq_getElem hj)
      refine ⟨n, fun p hp => ?_⟩
      rw [List.getElem?_eq_getElem hj] at hp
      injection hp with hp
      rw [← hp]
      exact hn)
  exact ⟨N, h.1, fun j p hj => hN j (List.getElem?_eq_some_iff.1 hj).1 p hj⟩
theorem fix_R_back (hm : Mono F) {e : Nat} {w : World} {base : Nat} {ok : Nat → Prop} {v : Value} {xs : List α} (h : (fix F sz E hs hE).R e w base ok v xs) : ∃ n, (upto F sz E n).R e w base ok v xs := by
  obtain ⟨h0, inner, ho, hr⟩ := h
  obtain ⟨N, hN⟩ := reps_bounded (R := fun n p c => (upto F sz E n).M w base (fun k => ok k ∧ some k ≠ v.ownBlock) p c) (fun n m p c hnm hp => upto_M_le hm hs hnm hp) hr
  refine ⟨N, h0, inner, ?_, ?_⟩
  · rw [hs N]; exact ho
  · rw [hs N]; exact hN
theorem upto_R_le (hm : Mono F) (hs : ∀ n, (upto F sz E n).sz = sz) {n m : Nat} (hnm : n ≤ m) {e : Nat} {w : World} {base : Nat} {ok : Nat → Prop} {v : Value} {xs : List α} (h : (upto F sz E n).R e w base ok v xs) : (upto F sz E m).R e w base ok v xs := R_imp (by rw [hs n, hs m]) (fun _ _ _ _ _ hp => upto_M_le hm hs hnm hp) h
end
end Kd
namespace Kd
end Kd
namespace Kd
section
variable {α β : Type} {d : Kd α} {d' : Kd β} {e e' : Nat} {w w1 W : World} {base b b' : Nat} {ok ok' okv oku : Nat → Prop} {v u : Value} {xs : List α} {ys : List β}
end
section
variable {w W : World} {A : Option Addr} {n : Nat}
variable {α : Type} {enc : α → Value} {h1 : ∀ x, (enc x).oneCell' = true} {e base g cap : Nat} {ok : Nat → Prop} {xs : List α}
end
section
variable {P : Program} {ops : Array Oper} {rest : List Oper} {o : Oper} {a : Act} {Q : Exit → Act → World → Prop}
variable {α : Type}
theorem R_lit (d : Kd α) {w0 W : World} (base e : Nat) (hgd : o.guard = none) {N : Tmp} (_hd : o.dst = some N) {xs : List α} {inner : List Value} {ok okp : Nat → Prop}
    (hrun : (execOp a.eval o).run P W = .ok (.value (.slice (some ⟨W.heap.size, 0, none⟩) xs.length xs.length)) (W.alloc (.cells inner.toArray e)))
    (hrep : Reps (d.M W base okp) d.sz xs inner) (hok : ∀ k, okp k → ok k) (hfresh : ok W.heap.size) (HB : Below base w0 W) (hbase : base ≤ W.heap.size) (hm : xs.length ≤ 9223372036854775807)
    (h : ∀ v1 w1, d.R e w1 base ok v1 xs → Below base w0 w1 → W.grownBy w1 none → (∃ b, v1.ownBlock = some b ∧ W.heap.size ≤ b) → wpList P ops Q rest (a.put o.dst v1) w1) : wpList P ops Q (o :: rest) a W := by
  refine event_run hgd hrun (h _ _ ⟨fun k hk => ?_, inner, ?_, ?_⟩ (HB.alloc hbase _) (World.grownBy_alloc W _ none) ⟨W.heap.size, by simp [Value.ownBlock], Nat.le_refl _⟩)
  · have : W.heap.size = k := by simpa [Value.ownBlock] using hk
    subst this
    exact hfresh
  · have h2 := World.ownsRow_lit (base := base) (e := e) (size := d.sz) W inner.toArray xs.length hbase (by simpa [maxLen] using hm) (by simpa using hrep.1)
    simpa using h2
  · refine hrep.imp_ (fun p c hp => d.M_mono (fun k hk => ⟨hok k hk.1, fun he => ?_⟩) (M_below (d.M_bound hp) (wAl (Below.refl _ _) _)))
    have h3 : k = W.heap.size := by simpa [Value.ownBlock] using he
    have := hk.2.2.1
    omega
end
end Kd
theorem own_take {w : World} {base n m c size : Nat} {e : TypeId} {A : Option Addr} {xs : List Value} (h : w.ownsRow base e size (.slice A n c) n xs) (hm : m ≤ n) : w.ownsRow base e size (.slice A m c) m (xs.take (m * size)) := by
  obtain ⟨h1, h2⟩ := h
  refine ⟨by rw [List.length_take, h1]; exact Nat.min_eq_left (Nat.mul_le_mul_right _ hm), ?_⟩
  rcases h2 with ⟨he, h0⟩ | ⟨g, cap, cur, he, hb, hh, hnc, hcm, hcs, ht⟩
  · injection he with ha _ hc
    subst ha; subst hc
    exact .inl ⟨by rw [show m = 0 by omega], by omega⟩
  · injection he with ha _ hc
    subst ha; subst hc
    refine .inr ⟨g, c, cur, rfl, hb, hh, by omega, hcm, hcs, ?_⟩
    rw [← ht, List.take_take, Nat.min_eq_left (Nat.mul_le_mul_right _ hm)]
section
variable {P : Program}
theorem cut_to (t e : TypeId) (kh : IntKind) {i : TypeInfo} (ht : P.underlying t = some (.slice e)) (hi : P.info? e = some i) (A : Option Addr) (n c : Nat) (j : Int) (h0 : 0 ≤ j) (hm : j ≤ n) (hc : n ≤ c) :
    ∀ W : World, (Instr.slice t (.slice A n c) none (some (.int kh j)) none).run P W = .ok (.slice A j.toNat c) W := by
  intro W
  have hel : P.elem t = e := by simp [Program.elem, ht]
  have hu : P.underlying t = some (.slice (P.elem t)) := by rw [hel]; exact ht
  have ha : (A.map fun x => x.add 0) = A := by cases A <;> simp [Addr.add]
  rw [run_slice_h W t A n c hu kh j h0 (by omega), hel]
  simp [sizeOf, typeInfo, hi, sliced, Result.andThen, ha]
end
section
variable {w w1 : World} {base n size : Nat} {e : TypeId} {v : Value} {xs : List Value}
theorem add_at (g o j : Nat) : (⟨g, o, none⟩ : Addr).add j = ⟨g, o + j, none⟩ := by unfold Addr.add; split <;> simp_all
end
section
variable {P : Program}
end
namespace Kd
theorem reps_take {α : Type} {R : α → List Value → Prop} {size m : Nat} {ps : List α} {cs : List Value} (h : Reps R size ps cs) (hm : m ≤ ps.length) : Reps R size (ps.take m) (cs.take (m * size)) := by
  refine ⟨by rw [List.length_take, List.length_take, h.1, Nat.min_eq_left hm, Nat.min_eq_left (Nat.mul_le_mul_right _ hm)], fun j p hj => ?_⟩
  rw [List.getElem?_take] at hj
  split at hj
  · rename_i hjm
    have := h.2 j p hj
    have hle : j * size + size ≤ m * size := by rw [← Nat.succ_mul]; exact Nat.mul_le_mul_right _ hjm
    rw [List.drop_take, List.take_take, Nat.min_eq_left (by omega)]
    exact this
  · cases hj
theorem R_take {α : Type} {d : Kd α} {e m n c : Nat} {w : World} {base : Nat} {ok : Nat → Prop} {A : Option Addr} {xs : List α} (h : d.R e w base ok (.slice A n c) xs) (hm : m ≤ xs.length) : d.R e w base ok (.slice A m c) (xs.take m) := by
  obtain ⟨h0, inner, ho, hr⟩ := h
  have hn : n = xs.length := by
    obtain ⟨A', c', he⟩ := own_slice ho
    injection he
  subst hn
  have hb : ∀ x y : Nat, (Value.slice A x c).ownBlock = (Value.slice A y c).ownBlock := by
    intro x y
    cases A <;> rfl
  refine ⟨fun k hk => h0 k (by rw [hb _ m]; exact hk), inner.take (m * d.sz), ?_, ?_⟩
  · rw [List.length_take, Nat.min_eq_left hm]
    exact own_take ho hm
  · rw [hb m xs.length]
    exact reps_take hr hm
section
variable {α : Type} {d : Kd α} {e : Nat} {w w1 W : World} {base : Nat} {ok ok' : Nat → Prop} {v : Value} {xs : List α}
end
section
variable {P : Program} {ops : Array Oper} {rest : List Oper} {o : Oper} {a : Act} {Q' : Exit → Act → World → Prop} {Kc : Act → World → Prop} {α : Type}
end
end Kd
namespace Kd
section
variable {α : Type} {d : Kd α} {e e' : Nat} {w w1 W : World} {base : Nat} {ok : Nat → Prop} {u v : Value} {xs : List α}
theorem R_typed (h : d.R e w base ok v xs) : ∀ k, v.ownBlock = some k → ∃ cells, w.heap[k]? = some (.cells cells e (0, 0)) := by
  obtain ⟨inner, ho⟩ := R_own h
  exact fun k hk => own_typed ho k hk
theorem R_over' (h : d.R e W base ok u xs) (hty : ∀ k, v.ownBlock = some k → ∃ cells, W.heap[k]? = some (.cells cells e' (0, 0))) (ht : ∀ q, q ∈ e :: d.E → q ≠ e') (hg : W.grownBy w1 v.ownBlock) : d.R e w1 base ok u xs := by
  refine R_mono (R_move (R_bound h) (fun k hk => hg.block k hk.2.2.1 (fun he => ?_))) (fun _ hk => hk.1)
  obtain ⟨_, _, _, q, hq, cells, hc⟩ := hk
  obtain ⟨cells', hc'⟩ := hty k he.symm
  rw [hc] at hc'
  injection hc' with hc'
  injection hc' with _ hc'
  exact ht q hq hc'
end
end Kd
namespace Kd
section
variable {α : Type} {d : Kd α} {e base g n cap : Nat} {ok okp : Nat → Prop} {W : World} {xs : List α}
theorem R_elem (h : d.R e W base ok (.slice (some ⟨g, 0, none⟩) n cap) xs) (z : α) (i : Int) (h0 : 0 ≤ i) (h1 : i < n) :
    ∃ c, c.length = d.sz ∧ d.M W base (fun k => ok k ∧ k ≠ g) (xs.getD i.toNat z) c ∧ (∀ j u, c[j]? = some u → W.cell? ⟨g, i.toNat * d.sz + j, none⟩ = some u) ∧ ∀ j, W.frozen? ⟨g, i.toNat * d.sz + j, none⟩ = false := by
  obtain ⟨hn, hnc, hC⟩ := R_reads' h
  obtain ⟨_, inner, ho, hr⟩ := h
  have hil : i.toNat < xs.length := by omega
  have hseg : i.toNat * d.sz + d.sz ≤ inner.length := by rw [hr.1, ← Nat.succ_mul]; exact Nat.mul_le_mul_right _ hil
  have hM := hr.2 i.toNat _ (List.getElem?_eq_getElem hil)
  refine ⟨(inner.drop (i.toNat * d.sz)).take d.sz, by rw [List.length_take, List.length_drop]; omega, ?_, fun j u hu => ?_, fun j => ?_⟩
  · rw [List.getD_eq_getElem?_getD, List.getElem?_eq_getElem hil]
    exact d.M_mono (fun k hk => ⟨hk.1, fun he => hk.2 (by rw [he]; simp [Value.ownBlock])⟩) hM
  · rw [List.getElem?_take] at hu
    split at hu
    · rw [List.getElem?_drop] at hu
      have := ho.cells (g := g) (by simp [Value.ownBlock]) _ u hu
      rwa [add_plain] at this
    · cases hu
  · obtain ⟨cells, hc⟩ := own_typed ho g (by simp [Value.ownBlock])
    exact bFz hc _
end
end Kd
namespace Kd
section
variable {α : Type} {F : Kd α → Kd α} {sz : Nat} {E : List Nat} {hs : ∀ n, (upto F sz E n).sz = sz} {hE : ∀ n q, q ∈ (upto F sz E n).E → q ∈ E}
end
end Kd
namespace Kd
section
variable {P : Program} {ops : Array Oper} {rest : List Oper} {o : Oper} {a : Act} {Q : Exit → Act → World → Prop} {α : Type}
end
end Kd
namespace Kd
section
variable {P : Program} {ops : Array Oper} {rest : List Oper} {o : Oper} {a : Act} {Q : Exit → Act → World → Prop} {α : Type}
end
end Kd
namespace Kd
section
variable {α : Type} {k : Kd α} {w : World} {A : Option Addr} {xs : List α} {m c : Nat}
end
end Kd
section
variable {P : Program}
end
namespace Kd
section
variable {α β : Type} {d : Kd α} {d' : Kd β} {e e' base base' n : Nat} {ok ok' : Nat → Prop} {w W w1 W1 : World} {v u : Value} {xs : List α} {ys : List β} {A : Option Addr} {c : Nat}
end
section
variable {α : Type} {enc : α → Value} {h1 : ∀ x, (enc x).oneCell' = true} {w W : World} {A : Option Addr} {n g : Nat} {xs : List α}
end
end Kd
namespace Kd
section
variable {α : Type} {d : Kd α} {e base g : Nat} {ok : Nat → Prop} {w w1 : World} {v : Value} {xs : List α} {o : Obj}
theorem R_elderB (h : d.R e w base ok v xs) (a : Nat) (ha : w.heap.size ≤ a) : d.R e w base (fun k => ok k ∧ k ≠ a) v xs := R_mono (R_bound h) (fun k hk => ⟨hk.1, by have := hk.2.2.1; omega⟩)
end
end Kd
section
variable {P : Program} {ops : Array Oper} {rest : List Oper} {o : Oper} {a : Act} {Q : Exit → Act → World → Prop}
end
namespace Kd
section
variable {α : Type} {enc : α → Value} {h1 : ∀ x, (enc x).oneCell' = true} {e base g n cap : Nat} {ok : Nat → Prop} {W : World} {xs : List α}
end
end Kd
section
variable {P : Program} {ops : Array Oper} {rest : List Oper} {o : Oper} {a : Act} {Q : Exit → Act → World → Prop}
end
namespace Kd
section
variable {α : Type} {enc : α → Value} {h1 : ∀ x, (enc x).oneCell' = true} {e base g n cap : Nat} {ok : Nat → Prop} {W : World} {xs : List α}
end
end Kd
section
variable {P : Program} {ops : Array Oper} {rest : List Oper} {o : Oper} {a : Act} {Q : Exit → Act → World → Prop} {W : World}
end
section
variable {P : Program} {ops : Array Oper} {o : Oper} {a : Act} {Q : Exit → Act → World → Prop} {Kc : Act → World → Prop}
namespace Kd
variable {α : Type}
end Kd
end
section
variable {P : Program} {tmps : Array Value} {w : World}
end
namespace Kd
section
variable {P : Program} {α : Type}
end
section
variable {P : Program} {ops : Array Oper} {rest : List Oper} {o : Oper} {a : Act} {Q : Exit → Act → World → Prop} {Kc : Act → World → Prop} {α : Type}
end
end Kd
end Go.Proofs.YtgbpdfkobelbcaaW.PrintWords
end
section
namespace Go.Proofs.YtgbpdfkobelbcaaW.PrintMore
open Go.RowKit Go.Proofs.YtgbpdfkobelbcaaW.PrintWords
namespace Kd
open Go.Proofs.YtgbpdfkobelbcaaW.PrintWords.Kd
theorem R_get {α : Type} {d : Kd α} {e base n cap : Nat} {ok : Nat → Prop} {W : World} {ad : Addr} {xs : List α} (h : d.R e W base ok (.slice (some ad) n cap) xs) (z : α) (i : Int) (h0 : 0 ≤ i) (h1 : i < n) :
    ∃ c, c.length = d.sz ∧ d.M W base (fun k => ok k ∧ some k ≠ (Value.slice (some ad) n cap).ownBlock) (xs.getD i.toNat z) c ∧ ∀ j u, c[j]? = some u → W.cell? (ad.add (i.toNat * d.sz + j)) = some u := by
  obtain ⟨g, hg⟩ : ∃ g, ad = ⟨g, 0, none⟩ := by
    obtain ⟨_, inner, ho, _⟩ := h
    rcases ho.2 with ⟨hv, _⟩ | ⟨g, cap', cur, hv, _⟩
    · cases hv
    · injection hv with ha _ _
      injection ha with ha
      exact ⟨g, ha⟩
  subst hg
  obtain ⟨c, hcl, hM, hcc, _⟩ := R_elem h z i h0 h1
  refine ⟨c, hcl, d.M_mono (fun k hk => ⟨hk.1, fun he => hk.2 ?_⟩) hM, fun j u hu => ?_⟩
  · rw [add_at, Nat.zero_add]
    exact hcc j u hu
  · simpa [Value.ownBlock] using he
end Kd
namespace Kd
open Go.Proofs.YtgbpdfkobelbcaaW.PrintWords.Kd
section
variable {α : Type} {d : Kd α} {e base g N : Nat} {ok : Nat → Prop} {W w1 : World} {u v : Value} {xs : List α}
end
end Kd
end Go.Proofs.YtgbpdfkobelbcaaW.PrintMore
namespace Go.Proofs.YtgbpdfkobelbcaaW.PrintWords
open Go.RowKit
section
variable {P : Program} {ops : Array Oper} {rest : List Oper} {o : Oper} {a : Act} {Q : Exit → Act → World → Prop} {W : World}
end
namespace Kd
section
variable {α : Type} {d : Kd α} {e base : Nat} {ok : Nat → Prop} {W w1 : World} {v : Value} {xs : List α}
end
section
variable {α : Type} {d : Kd α} {e base g n cap : Nat} {ok oki okp : Nat → Prop} {W : World} {xs : List α} {i : Int} {c : List Value}
end
section
variable {α : Type} {d : Kd α} {e base b b' g N : Nat} {ok ok1 : Nat → Prop} {W W2 w1 : World} {u v : Value} {xs ys : List α} {S : Nat → Prop}
end
end Kd
end Go.Proofs.YtgbpdfkobelbcaaW.PrintWords
namespace Go.Proofs.YtgbpdfkobelbcaaW.PrintWords
open Go.RowKit
namespace Kd
section
variable {α β : Type} {d : Kd α} {e base base' n m c g N' lo hi : Nat} {ok ok' S : Nat → Prop} {w W w1 : World} {A : Option Addr} {ad : Addr} {u v v1 : Value} {xs : List α}
end
end Kd
end Go.Proofs.YtgbpdfkobelbcaaW.PrintWords
end
section
namespace Go.Proofs.Ytgbpdfkobelbcaa.PSimpFolds
open Go.RowKit Go.Proofs.YtgbpdfkobelbcaaW.PrintWords Go.Proofs.YtgbpdfkobelbcaaW.PrintLast Go.Proofs.YtgbpdfkobelbcaaW.PrintMore
attribute [local go_sem] max2_int min2_int max_two min_two max_three min_three max_four min_four
set_option linter.unusedVariables false
set_option linter.unusedSimpArgs false
theorem k24_openM {w : World} {base : Nat} {ok : Nat → Prop} {x : S24} {cs : List Value} (h : k24.M w base ok x cs) : ∃ v5, cs = [.int .i64 x.f0, .int .i64 x.f1, .int .i64 x.f2, .int .i64 x.f3, .string x.f4, v5] ∧ k24.R 24 w base ok v5 x.f5 := by
  obtain ⟨n, h⟩ := h
  cases n with
  | zero => exact h.elim
  | succ n =>
    obtain ⟨_, _, rfl, rfl, ⟨_, _, rfl, rfl, ⟨_, _, rfl, rfl, ⟨_, _, rfl, rfl, ⟨_, _, rfl, rfl, ⟨v5, rfl, g5⟩⟩⟩⟩⟩⟩ := h
    exact ⟨v5, rfl, Kd.fix_R g5⟩
theorem k24_mkM (w : World) (base : Nat) (ok : Nat → Prop) (x : S24) {v5 : Value} (g5 : k24.R 24 w base ok v5 x.f5) : k24.M w base ok x [.int .i64 x.f0, .int .i64 x.f1, .int .i64 x.f2, .int .i64 x.f3, .string x.f4, v5] := by
  obtain ⟨n5, q5⟩ := Kd.fix_R_back mono24 g5
  have r5 := Kd.upto_R_le mono24 sz24 (show n5 ≤ n5 by omega) q5
  exact ⟨n5 + 1, ⟨[.int .i64 x.f0], [.int .i64 x.f1, .int .i64 x.f2, .int .i64 x.f3, .string x.f4, v5], rfl, rfl, ⟨[.int .i64 x.f1], [.int .i64 x.f2, .int .i64 x.f3, .string x.f4, v5], rfl, rfl, ⟨[.int .i64 x.f2], [.int .i64 x.f3, .string x.f4, v5], rfl, rfl, ⟨[.int .i64 x.f3], [.string x.f4, v5], rfl, rfl, ⟨[.string x.f4], [v5], rfl, rfl, ⟨v5, rfl, r5⟩⟩⟩⟩⟩⟩⟩
end Go.Proofs.Ytgbpdfkobelbcaa.PSimpFolds
end
section
namespace Go.Proofs.Ytgbpdfkobelbcaa.PSimpFolds
open Go.RowKit Go.Proofs.YtgbpdfkobelbcaaW.PrintWords Go.Proofs.YtgbpdfkobelbcaaW.PrintLast Go.Proofs.YtgbpdfkobelbcaaW.PrintMore
attribute [local go_sem] max2_int min2_int max_two min_two max_three min_three max_four min_four
set_option linter.unusedVariables false
set_option linter.unusedSimpArgs false
def l20op.f (a0 : Int) (l1 : List (S24)) : Option (Int × Int × Int × Int × ByteArray × (List (S24))) := some (3, a0, 0, 0, (⟨#[]⟩ : ByteArray), l1)
set_option maxHeartbeats 8000000 in
set_option maxRecDepth 100000 in
theorem l20op.calls (a0 : Int) (P1_ : Nat → Prop) (A1 : Option Addr) (c1 : Nat) (l1 : List (S24)) (r1 : Int) (r2 : Int) (r3 : Int) (r4 : Int) (r5 : ByteArray) (r6 : List (S24)) (w : World) (hs1 : Kd.V k24 24 w w.heap.size (fun k_ => P1_ k_) (.slice A1 l1.length c1) l1) (h : l20op.f a0 l1 = some (r1, r2, r3, r4, r5, r6)) :
    Calls Try.prog 11 #[.int .i64 a0, .slice A1 l1.length c1] w fun e w' => ∃ v5_ : Value, e = .returned (.agg #[.int .i64 r1, .int .i64 r2, .int .i64 r3, .int .i64 r4, .string r5, v5_]) ∧ Kd.V k24 24 w' w.heap.size (fun k_ => (P1_ k_ ∨ w.heap.size ≤ k_)) v5_ r6 ∧ Below w.heap.size w w' := by
  have hu24 := Try.underlying24
  have HO1 := Asd.mk (show Kd.V k24 24 w w.heap.size (fun k_ => (P1_ k_ ∨ w.heap.size ≤ k_)) (.slice A1 l1.length c1) l1 from Kd.V_mono hs1 (fun k_ hk => .inl hk))
  have HB := Asd.mk (Below.refl w.heap.size w)
  have H : (some (3, a0, 0, 0, (⟨#[]⟩ : ByteArray), l1)) = some (r1, r2, r3, r4, r5, r6) := h
  clear h
  simp only [Option.some.injEq, Prod.mk.injEq] at H
  obtain ⟨rfl, rfl, rfl, rfl, rfl, rfl⟩ := H
  go_enter Try.func11, Try.ntmps11
  go_wp2_with (first | ((with_reducible refine gate_dst (N := 4) rfl ?_); refine box_event ?hg (N := 4) ?hd (cs := #[.int .i64 0, .int .i64 0, .int .i64 0, .int .i64 0, .string (⟨#[]⟩ : ByteArray), .slice none 0 0]) (t := 24) ?hr ?_; (case hd => rfl); (case hg => rfl); (case hr => first | (go_simp; done) | (go_simp; rfl)); intro gb218 hg w3 hbox hb; have n0_ := Asd.mk (Kd.V_below (Kd.V_elderB (by (with_reducible repeat (first | apply Kd.V_alloc | apply Kd.V_drewN | apply Kd.V_drew)); exact HO1.out) gb218 (Nat.le_of_eq hg.symm)) hb); have n1_ := Asd.mk (wSp (by repeat (first | (with_reducible first | exact HB.out | apply wAl | apply pDN | apply wDr) | exact HB.out)) hb); have n2_ := Asd.mk (hbox); have n3_ := Asd.mk ((by rw [hg]; exact (wSz (by repeat (first | (with_reducible first | exact HB.out | apply wAl | apply pDN | apply wDr) | exact HB.out))) : w.heap.size ≤ gb218)); have n4_ := Asd.mk ((by rw [hg]; exact (wSz (by repeat (first | (with_reducible first | exact HB.out | apply wAl | apply pDN | apply wDr) | exact HB.out))) : w.heap.size ≤ gb218)); clear HO1; clear HB; have HO1 := n0_; have HB := n1_; have BK218 := n2_; have GW218 := n3_; have GE218 := n4_; clear n0_ n1_ n2_ n3_ n4_; clear hb hbox hg; have hcz4_0 : w3.cell? ⟨gb218, 0, none⟩ = some (.int .i64 0) := (bCl BK218.out 0).trans rfl; have hcz4_1 : w3.cell? ⟨gb218, 1, none⟩ = some (.int .i64 0) := (bCl BK218.out 1).trans rfl; have hcz4_2 : w3.cell? ⟨gb218, 2, none⟩ = some (.int .i64 0) := (bCl BK218.out 2).trans rfl; have hcz4_3 : w3.cell? ⟨gb218, 3, none⟩ = some (.int .i64 0) := (bCl BK218.out 3).trans rfl; have hcz4_4 : w3.cell? ⟨gb218, 4, none⟩ = some (.string (⟨#[]⟩ : ByteArray)) := (bCl BK218.out 4).trans rfl; have hcz4_5 : w3.cell? ⟨gb218, 5, none⟩ = some (.slice none 0 0) := (bCl BK218.out 5).trans rfl; have hfz4_0 := bFz BK218.out 0; have hfz4_1 := bFz BK218.out 1; have hfz4_2 := bFz BK218.out 2; have hfz4_3 := bFz BK218.out 3; have hfz4_4 := bFz BK218.out 4; have hfz4_5 := bFz BK218.out 5))
  refine bodyPost_ret (results_cell_row rfl _ _ gb218 24 #[.int .i64 3, .int .i64 a0, .int .i64 0, .int .i64 0, .string (⟨#[]⟩ : ByteArray), .slice A1 l1.length c1] (0, 0) _ rfl (by (with_reducible repeat (first | refine bDN ?_ _ | refine bDr ?_ | refine bAl ?_ _)); refine blk_put (cs := #[.int .i64 3, .int .i64 a0, .int .i64 0, .int .i64 0, .string (⟨#[]⟩ : ByteArray), .slice none 0 0]) ?_ 5 _ rfl; (with_reducible repeat (first | refine bDN ?_ _ | refine bDr ?_ | refine bAl ?_ _)); refine blk_put (cs := #[.int .i64 3, .int .i64 a0, .int .i64 0, .int .i64 0, .string (⟨#[]⟩ : ByteArray), .slice none 0 0]) ?_ 4 _ rfl; (with_reducible repeat (first | refine bDN ?_ _ | refine bDr ?_ | refine bAl ?_ _)); refine blk_put (cs := #[.int .i64 3, .int .i64 a0, .int .i64 0, .int .i64 0, .string (⟨#[]⟩ : ByteArray), .slice none 0 0]) ?_ 3 _ rfl; (with_reducible repeat (first | refine bDN ?_ _ | refine bDr ?_ | refine bAl ?_ _)); refine blk_put (cs := #[.int .i64 3, .int .i64 a0, .int .i64 0, .int .i64 0, .string (⟨#[]⟩ : ByteArray), .slice none 0 0]) ?_ 2 _ rfl; (with_reducible repeat (first | refine bDN ?_ _ | refine bDr ?_ | refine bAl ?_ _)); refine blk_put (cs := #[.int .i64 3, .int .i64 0, .int .i64 0, .int .i64 0, .string (⟨#[]⟩ : ByteArray), .slice none 0 0]) ?_ 1 _ rfl; (with_reducible repeat (first | refine bDN ?_ _ | refine bDr ?_ | refine bAl ?_ _)); refine blk_put (cs := #[.int .i64 0, .int .i64 0, .int .i64 0, .int .i64 0, .string (⟨#[]⟩ : ByteArray), .slice none 0 0]) ?_ 0 _ rfl; (with_reducible repeat (first | refine bDN ?_ _ | refine bDr ?_ | refine bAl ?_ _)); exact BK218.out) Try.underlying24 rfl (by kernel_rfl)) rfl ?_
  exact ⟨_, by first | rfl | (simp [errW_none, errW_some] <;> rfl) | (simp [*, errW_none, errW_some] <;> rfl), by (with_reducible repeat (first | apply Kd.V_alloc | apply Kd.V_drewN | apply Kd.V_drew)); exact Kd.V_mono (Kd.V_far (p := ⟨gb218, 5, none⟩) (Kd.V_far (p := ⟨gb218, 4, none⟩) (Kd.V_far (p := ⟨gb218, 3, none⟩) (Kd.V_far (p := ⟨gb218, 2, none⟩) (Kd.V_far (p := ⟨gb218, 1, none⟩) (Kd.V_far (p := ⟨gb218, 0, none⟩) (Kd.V_mono HO1.out (fun k_ hk => (⟨hk, hk.2⟩ : _ ∧ k_ ≠ gb218))) (fun _ hk => hk.2) (.int .i64 3)) (fun _ hk => hk.2) (.int .i64 a0)) (fun _ hk => hk.2) (.int .i64 0)) (fun _ hk => hk.2) (.int .i64 0)) (fun _ hk => hk.2) (.string (⟨#[]⟩ : ByteArray))) (fun _ hk => hk.2) (.slice A1 l1.length c1)) (fun _ hk => hk.1.1), by repeat (first | (with_reducible first | exact HB.out | apply wAl | apply pDN | apply wDr | refine wSt ?_ GE218.out) | exact HB.out)⟩
end Go.Proofs.Ytgbpdfkobelbcaa.PSimpFolds
end
section
namespace Go.Proofs.Ytgbpdfkobelbcaa.PSimpFolds
open Go.RowKit Go.Proofs.YtgbpdfkobelbcaaW.PrintWords Go.Proofs.YtgbpdfkobelbcaaW.PrintLast Go.Proofs.YtgbpdfkobelbcaaW.PrintMore
attribute [local go_sem] max2_int min2_int max_two min_two max_three min_three max_four min_four
set_option linter.unusedVariables false
set_option linter.unusedSimpArgs false
def r20Is.f (a0_0 : Int) (a0_1 : Int) (a0_2 : Int) (a0_3 : Int) (a0_4 : ByteArray) (l0_5 : List (S24)) (a1 : Int) (a2 : Int) : Option (Bool) := if a0_0 = 1 then (if a0_2 = a1 then (some (a0_3 == a2)) else (some false)) else (some false)
set_option maxHeartbeats 8000000 in
set_option maxRecDepth 100000 in
theorem r20Is.calls (a0_0 : Int) (a0_1 : Int) (a0_2 : Int) (a0_3 : Int) (a0_4 : ByteArray) (A0_5 : Option Addr) (c0_5 : Nat) (l0_5 : List (S24)) (a1 : Int) (a2 : Int) (r : Bool) (w : World) (hr0_5 : Kd.C k24 w A0_5 l0_5.length l0_5) (hc0_5 : l0_5.length ≤ c0_5) (h : r20Is.f a0_0 a0_1 a0_2 a0_3 a0_4 l0_5 a1 a2 = some r) :
    Calls Try.prog 14 #[.agg #[.int .i64 a0_0, .int .i64 a0_1, .int .i64 a0_2, .int .i64 a0_3, .string a0_4, .slice A0_5 l0_5.length c0_5], .int .i64 a1, .int .i64 a2] w fun e w' => e = .returned (.bool r) ∧ Below w.heap.size w w' := by
  have hu24 := Try.underlying24
  have HR0_5 := Asd.mk hr0_5
  have HC0_5 := Asd.mk hc0_5
  clear hr0_5 hc0_5
  have HB := Asd.mk (Below.refl w.heap.size w)
  have H : (if a0_0 = 1 then (if a0_2 = a1 then (some (a0_3 == a2)) else (some false)) else (some false)) = some r := h
  clear h
  by_cases c4 : a0_0 = 1
  · rw [if_pos c4] at H
    have c4b0 : (a0_0 == 1) = true := beq_iff_eq.mpr c4
    have c4b1 : (a0_0 != 1) = false := bne_eq_false_iff_eq.mpr c4
    clear c4
    by_cases c5 : a0_2 = a1
    · rw [if_pos c5] at H
      have c5b0 : (a0_2 == a1) = true := beq_iff_eq.mpr c5
      have c5b1 : (a0_2 != a1) = false := bne_eq_false_iff_eq.mpr c5
      clear c5
      obtain rfl := Option.some.inj H
      go_enter Try.func14, Try.ntmps14
      go_wp2_with (first | ((with_reducible refine gate_dst (N := 3) rfl ?_); refine box_event ?hg (N := 3) ?hd (cs := #[.int .i64 a0_0, .int .i64 a0_1, .int .i64 a0_2, .int .i64 a0_3, .string a0_4, .slice A0_5 l0_5.length c0_5]) (t := 24) ?hr ?_; (case hd => rfl); (case hg => rfl); (case hr => first | (go_simp; done) | (go_simp; rfl)); intro gb404 hg w6 hbox hb; have n0_ := Asd.mk (wSp (by repeat (first | (with_reducible first | exact HB.out | apply wAl | apply pDN | apply wDr) | exact HB.out)) hb); have n1_ := Asd.mk (hbox); have n2_ := Asd.mk ((by rw [hg]; exact (wSz (by repeat (first | (with_reducible first | exact HB.out | apply wAl | apply pDN | apply wDr) | exact HB.out))) : w.heap.size ≤ gb404)); have n3_ := Asd.mk ((by rw [hg]; exact (wSz (by repeat (first | (with_reducible first | exact HB.out | apply wAl | apply pDN | apply wDr) | exact HB.out))) : w.heap.size ≤ gb404)); clear HB; have HB := n0_; have BK404 := n1_; have GW404 := n2_; have GE404 := n3_; clear n0_ n1_ n2_ n3_; clear hb hbox hg; have hcz7_0 : w6.cell? ⟨gb404, 0, none⟩ = some (.int .i64 a0_0) := (bCl BK404.out 0).trans rfl; have hcz7_1 : w6.cell? ⟨gb404, 1, none⟩ = some (.int .i64 a0_1) := (bCl BK404.out 1).trans rfl; have hcz7_2 : w6.cell? ⟨gb404, 2, none⟩ = some (.int .i64 a0_2) := (bCl BK404.out 2).trans rfl; have hcz7_3 : w6.cell? ⟨gb404, 3, none⟩ = some (.int .i64 a0_3) := (bCl BK404.out 3).trans rfl; have hcz7_4 : w6.cell? ⟨gb404, 4, none⟩ = some (.string a0_4) := (bCl BK404.out 4).trans rfl; have hcz7_5 : w6.cell? ⟨gb404, 5, none⟩ = some (.slice A0_5 l0_5.length c0_5) := (bCl BK404.out 5).trans rfl; have hfz7_0 := bFz BK404.out 0; have hfz7_1 := bFz BK404.out 1; have hfz7_2 := bFz BK404.out 2; have hfz7_3 := bFz BK404.out 3; have hfz7_4 := bFz BK404.out 4; have hfz7_5 := bFz BK404.out 5))
      go_ret
      exact ⟨by first | rfl | (simp [errW_none, errW_some] <;> rfl) | (simp [*, errW_none, errW_some] <;> rfl), by repeat (first | (with_reducible first | exact HB.out | apply wAl | apply pDN | apply wDr | refine wSt ?_ GE404.out) | exact HB.out)⟩
    · rw [if_neg c5] at H
      have c5b0 : (a0_2 == a1) = false := beq_eq_false_iff_ne.mpr c5
      have c5b1 : (a0_2 != a1) = true := bne_iff_ne.mpr c5
      obtain rfl := Option.some.inj H
      go_enter Try.func14, Try.ntmps14
      go_wp2_with (first | ((with_reducible refine gate_dst (N := 3) rfl ?_); refine box_event ?hg (N := 3) ?hd (cs := #[.int .i64 a0_0, .int .i64 a0_1, .int .i64 a0_2, .int .i64 a0_3, .string a0_4, .slice A0_5 l0_5.length c0_5]) (t := 24) ?hr ?_; (case hd => rfl); (case hg => rfl); (case hr => first | (go_simp; done) | (go_simp; rfl)); intro gb404 hg w8 hbox hb; have n0_ := Asd.mk (wSp (by repeat (first | (with_reducible first | exact HB.out | apply wAl | apply pDN | apply wDr) | exact HB.out)) hb); have n1_ := Asd.mk (hbox); have n2_ := Asd.mk ((by rw [hg]; exact (wSz (by repeat (first | (with_reducible first | exact HB.out | apply wAl | apply pDN | apply wDr) | exact HB.out))) : w.heap.size ≤ gb404)); have n3_ := Asd.mk ((by rw [hg]; exact (wSz (by repeat (first | (with_reducible first | exact HB.out | apply wAl | apply pDN | apply wDr) | exact HB.out))) : w.heap.size ≤ gb404)); clear HB; have HB := n0_; have BK404 := n1_; have GW404 := n2_; have GE404 := n3_; clear n0_ n1_ n2_ n3_; clear hb hbox hg; have hcz9_0 : w8.cell? ⟨gb404, 0, none⟩ = some (.int .i64 a0_0) := (bCl BK404.out 0).trans rfl; have hcz9_1 : w8.cell? ⟨gb404, 1, none⟩ = some (.int .i64 a0_1) := (bCl BK404.out 1).trans rfl; have hcz9_2 : w8.cell? ⟨gb404, 2, none⟩ = some (.int .i64 a0_2) := (bCl BK404.out 2).trans rfl; have hcz9_3 : w8.cell? ⟨gb404, 3, none⟩ = some (.int .i64 a0_3) := (bCl BK404.out 3).trans rfl; have hcz9_4 : w8.cell? ⟨gb404, 4, none⟩ = some (.string a0_4) := (bCl BK404.out 4).trans rfl; have hcz9_5 : w8.cell? ⟨gb404, 5, none⟩ = some (.slice A0_5 l0_5.length c0_5) := (bCl BK404.out 5).trans rfl; have hfz9_0 := bFz BK404.out 0; have hfz9_1 := bFz BK404.out 1; have hfz9_2 := bFz BK404.out 2; have hfz9_3 := bFz BK404.out 3; have hfz9_4 := bFz BK404.out 4; have hfz9_5 := bFz BK404.out 5))
      go_ret
      exact ⟨by first | rfl | (simp [errW_none, errW_some] <;> rfl) | (simp [*, errW_none, errW_some] <;> rfl), by repeat (first | (with_reducible first | exact HB.out | apply wAl | apply pDN | apply wDr | refine wSt ?_ GE404.out) | exact HB.out)⟩
  · rw [if_neg c4] at H
    have c4b0 : (a0_0 == 1) = false := beq_eq_false_iff_ne.mpr c4
    have c4b1 : (a0_0 != 1) = true := bne_iff_ne.mpr c4
    obtain rfl := Option.some.inj H
    go_enter Try.func14, Try.ntmps14
    go_wp2_with (first | ((with_reducible refine gate_dst (N := 3) rfl ?_); refine box_event ?hg (N := 3) ?hd (cs := #[.int .i64 a0_0, .int .i64 a0_1, .int .i64 a0_2, .int .i64 a0_3, .string a0_4, .slice A0_5 l0_5.length c0_5]) (t := 24) ?hr ?_; (case hd => rfl); (case hg => rfl); (case hr => first | (go_simp; done) | (go_simp; rfl)); intro gb404 hg w10 hbox hb; have n0_ := Asd.mk (wSp (by repeat (first | (with_reducible first | exact HB.out | apply wAl | apply pDN | apply wDr) | exact HB.out)) hb); have n1_ := Asd.mk (hbox); have n2_ := Asd.mk ((by rw [hg]; exact (wSz (by repeat (first | (with_reducible first | exact HB.out | apply wAl | apply pDN | apply wDr) | exact HB.out))) : w.heap.size ≤ gb404)); have n3_ := Asd.mk ((by rw [hg]; exact (wSz (by repeat (first | (with_reducible first | exact HB.out | apply wAl | apply pDN | apply wDr) | exact HB.out))) : w.heap.size ≤ gb404)); clear HB; have HB := n0_; have BK404 := n1_; have GW404 := n2_; have GE404 := n3_; clear n0_ n1_ n2_ n3_; clear hb hbox hg; have hcz11_0 : w10.cell? ⟨gb404, 0, none⟩ = some (.int .i64 a0_0) := (bCl BK404.out 0).trans rfl; have hcz11_1 : w10.cell? ⟨gb404, 1, none⟩ = some (.int .i64 a0_1) := (bCl BK404.out 1).trans rfl; have hcz11_2 : w10.cell? ⟨gb404, 2, none⟩ = some (.int .i64 a0_2) := (bCl BK404.out 2).trans rfl; have hcz11_3 : w10.cell? ⟨gb404, 3, none⟩ = some (.int .i64 a0_3) := (bCl BK404.out 3).trans rfl; have hcz11_4 : w10.cell? ⟨gb404, 4, none⟩ = some (.string a0_4) := (bCl BK404.out 4).trans rfl; have hcz11_5 : w10.cell? ⟨gb404, 5, none⟩ = some (.slice A0_5 l0_5.length c0_5) := (bCl BK404.out 5).trans rfl; have hfz11_0 := bFz BK404.out 0; have hfz11_1 := bFz BK404.out 1; have hfz11_2 := bFz BK404.out 2; have hfz11_3 := bFz BK404.out 3; have hfz11_4 := bFz BK404.out 4; have hfz11_5 := bFz BK404.out 5))
    go_ret
    exact ⟨by first | rfl | (simp [errW_none, errW_some] <;> rfl) | (simp [*, errW_none, errW_some] <;> rfl), by repeat (first | (with_reducible first | exact HB.out | apply wAl | apply pDN | apply wDr | refine wSt ?_ GE404.out) | exact HB.out)⟩
end Go.Proofs.Ytgbpdfkobelbcaa.PSimpFolds
end
section
namespace Go.Proofs.Ytgbpdfkobelbcaa.PSimpFolds
open Go.Ref (info24)
open Go.RowKit Go.Proofs.YtgbpdfkobelbcaaW.PrintWords Go.Proofs.YtgbpdfkobelbcaaW.PrintLast Go.Proofs.YtgbpdfkobelbcaaW.PrintMore
attribute [local go_sem] max2_int min2_int max_two min_two max_three min_three max_four min_four
set_option linter.unusedVariables false
set_option linter.unusedSimpArgs false
mutual
def l20SimpValues.j0 : Nat → Int → Int → Int → Int → Option (Bool)
  | 0, _, _, _, _ => none
  | k + 1, x0, x9, x10, x11 => (some (([(⟨1, 0, x9, x10, (⟨#[]⟩ : ByteArray), ([] : List (S24))⟩ : S24), (⟨1, 0, x9, x11, (⟨#[]⟩ : ByteArray), ([] : List (S24))⟩ : S24)] : List (S24)) : List (S24))).bind fun y403 => (if x0 = 1 then (l20SimpValues.j1 k x0 x9 y403 true) else (l20SimpValues.j1 k x0 x9 y403 (x0 == 2)))
def l20SimpValues.j1 : Nat → Int → Int → List (S24) → Bool → Option (Bool)
  | 0, _, _, _, _ => none
  | k + 1, x0, x9, x12, x42 => if x42 = true then (if 1 ≤ (x12.length : Int) then (l20SimpValues.j2 k x0 x9 (x12.take (1 : Int).toNat)) else (none)) else (l20SimpValues.j2 k x0 x9 x12)
def l20SimpValues.j2 : Nat → Int → Int → List (S24) → Option (Bool)
  | 0, _, _, _ => none
  | k + 1, x0, x9, x12 => (l20op.f x0 x12).bind fun bt409 => ((simp_Fold.f k bt409.1 bt409.2.1 bt409.2.2.1 bt409.2.2.2.1 bt409.2.2.2.2.1 bt409.2.2.2.2.2).bind fun bt417 => (l20SimpValues.l0 k x0 x9 x12 ([] : List Int) ([] : List Int) 0 bt417.1 bt417.2.1 bt417.2.2.1 bt417.2.2.2.1 bt417.2.2.2.2.1 bt417.2.2.2.2.2))
def l20SimpValues.l0 : Nat → Int → Int → List (S24) → List Int → List Int → Int → Int → Int → Int → Int → ByteArray → List (S24) → Option (Bool)
  | 0, _, _, _, _, _, _, _, _, _, _, _, _ => none
  | k + 1, x0, x9, x12, x14, x15, x16, x426000, x426001, x426002, x426003, x426004, x426005 => if x16 < (x12.length : Int) then (if x14.length < 17592186044416 then (if 0 ≤ x16 then (if x15.length < 17592186044416 then (l20SimpValues.l0 k x0 x9 x12 (x14 ++ [x9]) (x15 ++ [(rd_T24 x12 x16).f3]) (wrap64 (x16 + 1)) x426000 x426001 x426002 x426003 x426004 x426005) else (none)) else (none)) else (none)) else ((vRe.f k x0 x14).bind fun bt433 => ((vAp.f k x0 x15).bind fun bt435 => (if bt433.2 = 0 then (l20SimpValues.j4 k x0 x12 bt433.1 bt435.1 (bt435.2 == 0) x426000 x426001 x426002 x426003 x426004 x426005) else (l20SimpValues.j4 k x0 x12 bt433.1 bt435.1 false x426000 x426001 x426002 x426003 x426004 x426005))))
def l20SimpValues.j4 : Nat → Int → List (S24) → Int → Int → Bool → Int → Int → Int → Int → ByteArray → List (S24) → Option (Bool)
  | 0, _, _, _, _, _, _, _, _, _, _, _ => none
  | k + 1, x0, x12, x17, x19, x84, x426000, x426001, x426002, x426003, x426004, x426005 => if x84 = true then ((r20Is.f x426000 x426001 x426002 x426003 x426004 x426005 x17 x19).bind fun t437 => (if t437 = true then ((l20lives.f).bind fun t438 => (some t438)) else (some false))) else ((l20op.f x0 x12).bind fun bt439 => ((r20Fold.f k bt439.1 bt439.2.1 bt439.2.2.1 bt439.2.2.2.1 bt439.2.2.2.2.1 bt439.2.2.2.2.2).bind fun bt447 => ((r06Same.f k x426000 x426001 x426002 x426003 x426004 x426005 bt447.1 bt447.2.1 bt447.2.2.1 bt447.2.2.2.1 bt447.2.2.2.2.1 bt447.2.2.2.2.2).bind fun t455 => (if t455 = true then ((l20lives.f).bind fun t456 => (some t456)) else (some false)))))
end
def l20SimpValues.f (k : Nat) (a0 : Int) (a1 : Int) (a2 : Int) (a3 : Bool) : Option (Bool) := if a3 = true then (l20SimpValues.j0 k a0 1 (Go.bits .and .i64 (wrap64 (a1)) 1) (Go.bits .and .i64 (wrap64 (a2)) 1)) else (l20SimpValues.j0 k a0 2 (wrap64 (a1)) (wrap64 (a2)))
def l20SimpValues.T18 : Bool × List (List Nat × List Nat) := (true, [([], []), ([], []), ([], []), ([1, 2], [1, 2]), ([3, 3], [3]), ([0, 4, 4], [0, 4]), ([5, 5], [5]), ([6, 6], [6]), ([6, 7], [6, 7]), ([8, 7, 0, 1, 2, 3, 4, 5, 6, 7, 8], [8])])
def l20SimpValues.B18 : List Nat := [0, 0, 0, 6, 14, 31, 63, 127, 255, 511]
theorem l20SimpValues.tab18 : rtab .any (opsOf Try.f4 18) = l20SimpValues.T18 := by kernel_rfl
theorem l20SimpValues.bits18 : waitsOk l20SimpValues.T18.2 l20SimpValues.B18 = true := by kernel_rfl
set_option maxHeartbeats 8000000 in
set_option maxRecDepth 100000 in
theorem l20SimpValues.calls (k : Nat) (a0 : Int) (a1 : Int) (a2 : Int) (a3 : Bool) (r : Bool) (w : World) (hrt : Asd (r = true)) (h : l20SimpValues.f k a0 a1 a2 a3 = some r) :
    Calls Try.prog 4 #[.int .i64 a0, .int .i16 a1, .int .i16 a2, .bool a3] w fun e w' => e = .returned (.bool r) ∧ Below w.heap.size w w' := by
  have hu24 := Try.underlying24
  have HB := Asd.mk (Below.refl w.heap.size w)
  have H : (if a3 = true then (l20SimpValues.j0 k a0 1 (Go.bits .and .i64 (wrap64 (a1)) 1) (Go.bits .and .i64 (wrap64 (a2)) 1)) else (l20SimpValues.j0 k a0 2 (wrap64 (a1)) (wrap64 (a2)))) = some r := h
  clear h
  have HC5 := Asd.mk H
  clear H
  go_enter Try.func4, Try.ntmps4
  go_upto_if 25 with (fail)
  go_cut [9, 10, 11] (fun v9 v10 v11 wc => ∃ (kq : Nat) (x9_4 : Int) (x10_4 : Int) (x11_4 : Int), v9 = .int .i64 x9_4 ∧ v10 = .int .i64 x10_4 ∧ v11 = .int .i64 x11_4 ∧ Asd (l20SimpValues.j0 kq a0 x9_4 x10_4 x11_4 = some r) ∧ Asd (kq ≤ k) ∧ Asd (Below w.heap.size w wc))
  case first =>
    have H := HC5.out
    clear HC5
    by_cases c6 : a3 = true
    · subst c6
      have H1 : (l20SimpValues.j0 k a0 1 (Go.bits .and .i64 (wrap64 (a1)) 1) (Go.bits .and .i64 (wrap64 (a2)) 1)) = some r := by rw [if_pos rfl] at H; exact H
      clear H
      have H := H1
      clear H1
      have H' := Asd.mk H
      clear H
      go_wp2
      go_meet
      case rel => exact ⟨_, (1), (Go.bits .and .i64 (wrap64 (a1)) 1), (Go.bits .and .i64 (wrap64 (a2)) 1), (by first | rfl | (simp; done) | (simp [*]; done)), (by first | rfl | (simp; done) | (simp [*]; done)), (by first | rfl | (simp; done) | (simp [*]; done)), H', ⟨by first | omega | exact Nat.le_refl _⟩, ⟨by repeat (first | (with_reducible first | exact HB.out | apply wAl | apply pDN | apply wDr) | exact HB.out)⟩⟩
    · replace c6 := Bool.eq_false_iff.mpr c6
      subst c6
      have H1 : (l20SimpValues.j0 k a0 2 (wrap64 (a1)) (wrap64 (a2))) = some r := by rw [if_neg (show ¬ (false = true) by decide)] at H; exact H
      clear H
      have H := H1
      clear H1
      have H' := Asd.mk H
      clear H
      go_wp2
      go_meet
      case rel => exact ⟨_, (2), (wrap64 (a1)), (wrap64 (a2)), (by first | rfl | (simp; done) | (simp [*]; done)), (by first | rfl | (simp; done) | (simp [*]; done)), (by first | rfl | (simp; done) | (simp [*]; done)), H', ⟨by first | omega | exact Nat.le_refl _⟩, ⟨by repeat (first | (with_reducible first | exact HB.out | apply wAl | apply pDN | apply wDr) | exact HB.out)⟩⟩
  case rest =>
    clear HC5
    try clear p2
    try clear c4
    try clear c6
    try clear p6
    obtain ⟨kq, x9_4, x10_4, x11_4, rfl, rfl, rfl, HA, HJ4, HB⟩ := hcut
    cases kq with
    | zero => exact absurd HA.out (by simp [l20SimpValues.j0])
    | succ kj4 =>
      have H := HA.out
      clear HA
      simp only [l20SimpValues.j0] at H
      obtain ⟨y403, hy403⟩ : ∃ y_ : List (S24), y_ = (([(⟨1, 0, x9_4, x10_4, (⟨#[]⟩ : ByteArray), ([] : List (S24))⟩ : S24), (⟨1, 0, x9_4, x11_4, (⟨#[]⟩ : ByteArray), ([] : List (S24))⟩ : S24)] : List (S24))) := ⟨_, rfl⟩
      replace H : (if a0 = 1 then (l20SimpValues.j1 kj4 a0 x9_4 y403 true) else (l20SimpValues.j1 kj4 a0 x9_4 y403 (a0 == 2))) = some r := by first | (rw [hy403]; with_reducible exact H) | (have H2_ := (Option.bind_some _ _).symm.trans H; rw [hy403]; with_reducible exact H2_) | (have H2_ := (Option.bind_some _ _).symm.trans H; with_reducible exact H2_) | with_reducible exact H | (rw [hy403]; exact H) | exact H
      have Ny403 := Asd.mk hy403
      clear hy403
      have HC7 := Asd.mk H
      clear H
      go_upto_region 5 with (first | ((with_reducible refine gate_dst (N := 36) rfl ?_); refine Kd.R_lit k24 _ 24 ?hg (N := 36) ?hd (xs := ([(⟨1, 0, x9_4, x10_4, (⟨#[]⟩ : ByteArray), ([] : List (S24))⟩ : S24), (⟨1, 0, x9_4, x11_4, (⟨#[]⟩ : ByteArray), ([] : List (S24))⟩ : S24)] : List (S24))) (inner := [.int .i64 1, .int .i64 0, .int .i64 x9_4, .int .i64 x10_4, .string (⟨#[]⟩ : ByteArray), .slice none 0 0, .int .i64 1, .int .i64 0, .int .i64 x9_4, .int .i64 x11_4, .string (⟨#[]⟩ : ByteArray), .slice none 0 0]) (ok := fun _ => True) (okp := fun _ => True) ?hr ?hp (fun _ hk => hk) trivial (Below.refl _ _) (Nat.le_refl _) (by simp) ?_; (case hd => rfl); (case hg => rfl); (case hr => first | (go_simp; done) | (go_simp; rfl)); (case hp => exact (Reps.c6 (show Kd.M k24 _ _ _ (⟨1, 0, x9_4, x10_4, (⟨#[]⟩ : ByteArray), ([] : List (S24))⟩ : S24) [.int .i64 1, .int .i64 0, .int .i64 x9_4, .int .i64 x10_4, .string (⟨#[]⟩ : ByteArray), .slice none 0 0] from (k24_mkM _ _ _ (⟨1, 0, x9_4, x10_4, (⟨#[]⟩ : ByteArray), ([] : List (S24))⟩ : S24) (Kd.R_nil _ _ _ _ _))) (Reps.c6 (show Kd.M k24 _ _ _ (⟨1, 0, x9_4, x11_4, (⟨#[]⟩ : ByteArray), ([] : List (S24))⟩ : S24) [.int .i64 1, .int .i64 0, .int .i64 x9_4, .int .i64 x11_4, .string (⟨#[]⟩ : ByteArray), .slice none 0 0] from (k24_mkM _ _ _ (⟨1, 0, x9_4, x11_4, (⟨#[]⟩ : ByteArray), ([] : List (S24))⟩ : S24) (Kd.R_nil _ _ _ _ _))) (Reps.none _ _)))); intro v404 w8 ho9 hb hg_ hnew_; clear hg_ hnew_; (first | rw [← Ny403.out] at ho9 | (simp only [Int.reduceToNat] at ho9; rw [← Ny403.out] at ho9)); have n0_ := Asd.mk (Kd.R_lower ho9 (wSz (by repeat (first | (with_reducible first | exact HB.out | apply wAl | apply pDN | apply wDr) | exact HB.out)))); have n1_ := Asd.mk (wSp (by repeat (first | (with_reducible first | exact HB.out | apply wAl | apply pDN | apply wDr) | exact HB.out)) hb); clear HB; have HO405 := n0_; have HB := n1_; clear n0_ n1_; clear hb ho9))
      (try simp only [Act.put, List.setIfInBounds_toArray, List.set_cons_zero, List.set_cons_succ])
      go_cut [42] (fun v42 wc => ∃ (kq : Nat) (x42_6 : Bool), v42 = .bool x42_6 ∧ Asd (l20SimpValues.j1 kq a0 x9_4 y403 x42_6 = some r) ∧ Asd (kq ≤ kj4) ∧ Asd (Kd.R k24 24 wc w.heap.size (fun _ => True) v404 y403) ∧ Asd (Below w.heap.size w wc))
      case first =>
        have H := HC7.out
        clear HC7
        by_cases c10 : a0 = 1
        · rw [if_pos c10] at H
          have c10b0 : (a0 == 1) = true := beq_iff_eq.mpr c10
          have c10b1 : (a0 != 1) = false := bne_eq_false_iff_eq.mpr c10
          clear c10
          (first | rw [c10b0] | (simp only [i64_w, i32_w]; rw [c10b0]) | skip)
          have H' := Asd.mk H
          clear H
          go_wp2
          go_meet
          case rel => exact ⟨_, (true), (by first | rfl | (simp; done) | (simp [*]; done)), H', ⟨by have := HJ4.out; first | omega | exact Nat.le_refl _⟩, ⟨by (with_reducible repeat (first | apply Kd.R_alloc | apply Kd.R_drewN | apply Kd.R_drew)); exact HO405.out⟩, ⟨by repeat (first | (with_reducible first | exact HB.out | apply wAl | apply pDN | apply wDr) | exact HB.out)⟩⟩
        · rw [if_neg c10] at H
          have c10b0 : (a0 == 1) = false := beq_eq_false_iff_ne.mpr c10
          have c10b1 : (a0 != 1) = true := bne_iff_ne.mpr c10
          (first | rw [c10b0] | (simp only [i64_w, i32_w]; rw [c10b0]) | skip)
          have H' := Asd.mk H
          clear H
          go_wp2
          go_meet
          case rel => exact ⟨_, ((a0 == 2)), (by first | rfl | (simp; done) | (simp [*]; done)), H', ⟨by have := HJ4.out; first | omega | exact Nat.le_refl _⟩, ⟨by (with_reducible repeat (first | apply Kd.R_alloc | apply Kd.R_drewN | apply Kd.R_drew)); exact HO405.out⟩, ⟨by repeat (first | (with_reducible first | exact HB.out | apply wAl | apply pDN | apply wDr) | exact HB.out)⟩⟩
      case rest =>
        clear HC7
        try clear c1
        try clear p2
        try clear c4
        try clear c6
        try clear p6
        try clear c10
        try clear c10b0
        try clear c10b1
        try clear p2
        try clear p6
        obtain ⟨kq, x42_6, rfl, HA, HJ6, HO_12, HB⟩ := hcut
        cases kq with
        | zero => exact absurd HA.out (by simp [l20SimpValues.j1])
        | succ kj6 =>
          have H := HA.out
          clear HA
          simp only [l20SimpValues.j1] at H
          have HC11 := Asd.mk H
          clear H
          go_upto_if 42 with (fail)
          go_cut [12] (fun v12 wc => ∃ (kq : Nat) (x12_10 : List (S24)), Asd (l20SimpValues.j2 kq a0 x9_4 x12_10 = some r) ∧ Asd (kq ≤ kj6) ∧ Asd (Kd.R k24 24 wc w.heap.size (fun _ => True) v12 x12_10) ∧ Asd (Below w.heap.size w wc))
          case first =>
            have H := HC11.out
            clear HC11
            by_cases c12 : x42_6 = true
            · subst c12
              have H1 : (if 1 ≤ (y403.length : Int) then (l20SimpValues.j2 kj6 a0 x9_4 (y403.take (1 : Int).toNat)) else (none)) = some r := by rw [if_pos rfl] at H; exact H
              clear H
              have H := H1
              clear H1
              by_cases c13 : 1 ≤ (y403.length : Int)
              · rw [if_pos c13] at H
                have c13b0 := eq_true c13
                have c13b1 : decide (1 ≤ (y403.length : Int)) = true := decide_eq_true c13
                clear c13
                obtain ⟨y406, hy406⟩ : ∃ y_ : List (S24), y_ = (y403.take (1 : Int).toNat) := ⟨_, rfl⟩
                replace H : (l20SimpValues.j2 kj6 a0 x9_4 y406) = some r := by first | (rw [hy406]; with_reducible exact H) | (have H2_ := (Option.bind_some _ _).symm.trans H; rw [hy406]; with_reducible exact H2_) | (have H2_ := (Option.bind_some _ _).symm.trans H; with_reducible exact H2_) | with_reducible exact H | (rw [hy406]; exact H) | exact H
                have Ny406 := Asd.mk hy406
                clear hy406
                have H' := Asd.mk H
                clear H
                obtain ⟨Ao14, co14, eo14⟩ := Kd.R_slice HO_12.out
                subst eo14
                have q15 : (1 : Int) ≤ ((y403.length : Int) : Int) := of_decide_eq_true (by first | (with_reducible assumption) | assumption)
                obtain ⟨i015, hi015, _, hsz15, _⟩ := info_parts info24
                have hcut15 := cut_to (P := Try.prog) 22 24 .i64 Try.underlying22 hi015 Ao14 y403.length co14 1 (by omega) q15 (Kd.R_reads' HO_12.out).2.1
                have hr15 := Kd.R_take (m := (1 : Int).toNat) HO_12.out (by omega)
                have hy15 : y406.length = (1 : Int).toNat := (by rw [Ny406.out, List.length_take]; omega)
                rw [← Ny406.out] at hr15
                rw [← hy15] at hr15 hcut15
                clear hy15 hi015 hsz15 HO_12
                have HO408 := Asd.mk hr15
                clear hr15
                replace q15 := eq_true q15
                go_wp2
                go_meet
                case rel => exact ⟨_, (y406), H', ⟨by have := HJ4.out; have := HJ6.out; first | omega | exact Nat.le_refl _⟩, ⟨by (with_reducible repeat (first | apply Kd.R_alloc | apply Kd.R_drewN | apply Kd.R_drew)); exact HO408.out⟩, ⟨by repeat (first | (with_reducible first | exact HB.out | apply wAl | apply pDN | apply wDr) | exact HB.out)⟩⟩
              · rw [if_neg c13] at H
                exact absurd H (by simp)
            · replace c12 := Bool.eq_false_iff.mpr c12
              subst c12
              have H1 : (l20SimpValues.j2 kj6 a0 x9_4 y403) = some r := by rw [if_neg (show ¬ (false = true) by decide)] at H; exact H
              clear H
              have H := H1
              clear H1
              have H' := Asd.mk H
              clear H
              go_wp2
              go_meet
              case rel => exact ⟨_, (y403), H', ⟨by have := HJ4.out; have := HJ6.out; first | omega | exact Nat.le_refl _⟩, ⟨by (with_reducible repeat (first | apply Kd.R_alloc | apply Kd.R_drewN | apply Kd.R_drew)); exact HO_12.out⟩, ⟨by repeat (first | (with_reducible first | exact HB.out | apply wAl | apply pDN | apply wDr) | exact HB.out)⟩⟩
          case rest =>
            clear HC11
            try clear c1
            try clear q1
            try clear p2
            try clear c4
            try clear c6
            try clear p6
            try clear c10
            try clear c10b0
            try clear c10b1
            try clear c12
            try clear c13
            try clear c13b0
            try clear c13b1
            try clear q15
            try clear p2
            try clear p6
            try clear q15
            obtain ⟨kq, x12_10, HA, HJ10, HO_12, HB⟩ := hcut
            cases kq with
            | zero => exact absurd HA.out (by simp [l20SimpValues.j2])
            | succ kj10 =>
              have H := HA.out
              clear HA
              simp only [l20SimpValues.j2] at H
              replace H := Option.bind_eq_some_iff.mp H
              obtain ⟨⟨t409, t410, t411, t412, t413, t414⟩, A160, H⟩ := H
              replace H : ((simp_Fold.f kj10 t409 t410 t411 t412 t413 t414).bind fun bt417 => (l20SimpValues.l0 kj10 a0 x9_4 x12_10 ([] : List Int) ([] : List Int) 0 bt417.1 bt417.2.1 bt417.2.2.1 bt417.2.2.2.1 bt417.2.2.2.2.1 bt417.2.2.2.2.2)) = some r := H
              have A16 := Asd.mk A160
              clear A160
              replace H := Option.bind_eq_some_iff.mp H
              obtain ⟨⟨t417, t418, t419, t420, t421, t422⟩, A170, H⟩ := H
              replace H : (l20SimpValues.l0 kj10 a0 x9_4 x12_10 ([] : List Int) ([] : List Int) 0 t417 t418 t419 t420 t421 t422) = some r := H
              have A17 := Asd.mk A170
              clear A170
              have H' := Asd.mk H
              clear H
              obtain ⟨Ao18, co18, eo18⟩ := Kd.R_slice HO_12.out
              subst eo18
              go_wp2_with (first | ((with_reducible refine gate_callee (f := 11) rfl ?_); refine goesL_ (some 47) rfl rfl Try.func11 (by kernel_rfl) rfl #[.int .i64 a0, .slice Ao18 x12_10.length co18] rfl (by (try simp only [List.map_toArray, List.map_cons, List.map_nil]); first | done | rfl | (simp only [List.length_drop, List.length_take]; rfl)) ?_; (with_reducible refine (l20op.calls a0 (fun k_ => True) _ _ x12_10 t409 t410 t411 t412 t413 t414 _ ?side1 A16.out).mono ?_); (case side1 => exact Kd.R_V (HO_12.out)); rintro e w19 ⟨v415, rfl, ho0, hb⟩; refine ⟨_, rfl, ?_⟩; have n0_ := Asd.mk (Kd.R_below (by (with_reducible repeat (first | apply Kd.R_alloc | apply Kd.R_drewN | apply Kd.R_drew)); exact HO_12.out) hb); have n1_ := Asd.mk (Kd.V_lower (Kd.V_mono (ok' := fun k_ => True) ho0 (fun k_ hk_ => trivial)) (wSz (by repeat (first | (with_reducible first | exact HB.out | apply wAl | apply pDN | apply wDr) | exact HB.out)))); have n2_ := Asd.mk (wSp (by repeat (first | (with_reducible first | exact HB.out | apply wAl | apply pDN | apply wDr) | exact HB.out)) hb); clear HO_12; clear HB; have HO_12 := n0_; have HO416 := n1_; have HB := n2_; clear n0_ n1_ n2_; (try clear hb); (try clear hb2); (try clear hk); (try clear hi); (try clear ho0); obtain ⟨Ao20, co20, eo20⟩ := Kd.V_slice HO416.out; subst eo20) | ((with_reducible refine gate_callee (f := 7) rfl ?_); refine goesL_ (some 48) rfl rfl Try.func7 (by kernel_rfl) rfl #[.agg #[.int .i64 t409, .int .i64 t410, .int .i64 t411, .int .i64 t412, .string t413, .slice Ao20 t414.length co20]] rfl (by (try simp only [List.map_toArray, List.map_cons, List.map_nil]); first | done | rfl | (simp only [List.length_drop, List.length_take]; rfl)) ?_; (with_reducible refine (simp_Fold.calls kj10 t409 t410 t411 t412 t413 (fun k_ => True) _ _ t414 t417 t418 t419 t420 t421 t422 _ ?side1 A17.out).mono ?_); (case side1 => exact HO416.out); rintro e w21 ⟨v423, rfl, ho0, hb⟩; refine ⟨_, rfl, ?_⟩; have n0_ := Asd.mk (Kd.R_below (by (with_reducible repeat (first | apply Kd.R_alloc | apply Kd.R_drewN | apply Kd.R_drew)); exact HO_12.out) hb); have n1_ := Asd.mk (Kd.V_below (by (with_reducible repeat (first | apply Kd.V_alloc | apply Kd.V_drewN | apply Kd.V_drew)); exact HO416.out) hb); have n2_ := Asd.mk (Kd.V_lower (Kd.V_mono (ok' := fun k_ => True) ho0 (fun k_ hk_ => trivial)) (wSz (by repeat (first | (with_reducible first | exact HB.out | apply wAl | apply pDN | apply wDr) | exact HB.out)))); have n3_ := Asd.mk (wSp (by repeat (first | (with_reducible first | exact HB.out | apply wAl | apply pDN | apply wDr) | exact HB.out)) hb); clear HO_12; clear HO416; clear HB; have HO_12 := n0_; have HO416 := n1_; have HO424 := n2_; have HB := n3_; clear n0_ n1_ n2_ n3_; (try clear hb); (try clear hb2); (try clear hk); (try clear hi); (try clear ho0)) | ((with_reducible refine gate_dst (N := 13) rfl ?_); refine box_event ?hg (N := 13) ?hd (cs := #[.int .i64 0, .int .i64 0, .int .i64 0, .int .i64 0, .string (⟨#[]⟩ : ByteArray), .slice none 0 0]) (t := 24) ?hr ?_; (case hd => rfl); (case hg => rfl); (case hr => first | (go_simp; done) | (go_simp; rfl)); intro gb425 hg w22 hbox hb; have n0_ := Asd.mk (Kd.R_below (Kd.R_elderB (by (with_reducible repeat (first | apply Kd.R_alloc | apply Kd.R_drewN | apply Kd.R_drew)); exact HO_12.out) gb425 (Nat.le_of_eq hg.symm)) hb); have n1_ := Asd.mk (Kd.V_below (Kd.V_elderB (by (with_reducible repeat (first | apply Kd.V_alloc | apply Kd.V_drewN | apply Kd.V_drew)); exact HO416.out) gb425 (Nat.le_of_eq hg.symm)) hb); have n2_ := Asd.mk (Kd.V_below (Kd.V_elderB (by (with_reducible repeat (first | apply Kd.V_alloc | apply Kd.V_drewN | apply Kd.V_drew)); exact HO424.out) gb425 (Nat.le_of_eq hg.symm)) hb); have n3_ := Asd.mk (wSp (by repeat (first | (with_reducible first | exact HB.out | apply wAl | apply pDN | apply wDr) | exact HB.out)) hb); have n4_ := Asd.mk (hbox); have n5_ := Asd.mk ((by rw [hg]; exact (wSz (by repeat (first | (with_reducible first | exact HB.out | apply wAl | apply pDN | apply wDr) | exact HB.out))) : w.heap.size ≤ gb425)); have n6_ := Asd.mk ((by rw [hg]; exact (wSz (by repeat (first | (with_reducible first | exact HB.out | apply wAl | apply pDN | apply wDr) | exact HB.out))) : w.heap.size ≤ gb425)); clear HO_12; clear HO416; clear HO424; clear HB; have HO_12 := n0_; have HO416 := n1_; have HO424 := n2_; have HB := n3_; have BK425 := n4_; have GW425 := n5_; have GE425 := n6_; clear n0_ n1_ n2_ n3_ n4_ n5_ n6_; clear hb hbox hg; have hcz23_0 : w22.cell? ⟨gb425, 0, none⟩ = some (.int .i64 0) := (bCl BK425.out 0).trans rfl; have hcz23_1 : w22.cell? ⟨gb425, 1, none⟩ = some (.int .i64 0) := (bCl BK425.out 1).trans rfl; have hcz23_2 : w22.cell? ⟨gb425, 2, none⟩ = some (.int .i64 0) := (bCl BK425.out 2).trans rfl; have hcz23_3 : w22.cell? ⟨gb425, 3, none⟩ = some (.int .i64 0) := (bCl BK425.out 3).trans rfl; have hcz23_4 : w22.cell? ⟨gb425, 4, none⟩ = some (.string (⟨#[]⟩ : ByteArray)) := (bCl BK425.out 4).trans rfl; have hcz23_5 : w22.cell? ⟨gb425, 5, none⟩ = some (.slice none 0 0) := (bCl BK425.out 5).trans rfl; have hfz23_0 := bFz BK425.out 0; have hfz23_1 := bFz BK425.out 1; have hfz23_2 := bFz BK425.out 2; have hfz23_3 := bFz BK425.out 3; have hfz23_4 := bFz BK425.out 4; have hfz23_5 := bFz BK425.out 5; obtain ⟨Ao24, co24, eo24⟩ := Kd.V_slice HO424.out; subst eo24))
              go_loopg [14, 15, 16] kj10 (fun kq v14 v15 v16 w' => ∃ (x14_4 : List Int) (x15_4 : List Int) (x16_4 : Int), v16 = .int .i64 x16_4 ∧ Asd (l20SimpValues.l0 kq a0 x9_4 x12_10 x14_4 x15_4 x16_4 t417 t418 t419 t420 t421 t422 = some r) ∧ Asd (kq ≤ kj10) ∧ Asd (Kd.R k24 24 w' w.heap.size (fun k_ => k_ ≠ gb425) (.slice Ao18 x12_10.length co18) x12_10) ∧ Asd (Kd.R (Kd.int .i64) 3 w' w.heap.size (fun k_ => some k_ ≠ (v15 : Value).ownBlock) v14 x14_4) ∧ Asd (Kd.R (Kd.int .i64) 3 w' w.heap.size (fun k_ => some k_ ≠ (v14 : Value).ownBlock) v15 x15_4) ∧ Asd (Kd.V k24 24 w' w.heap.size (fun k_ => some k_ ≠ (v14 : Value).ownBlock ∧ some k_ ≠ (v15 : Value).ownBlock ∧ k_ ≠ gb425) (.slice Ao24 t422.length co24) t422) ∧ Asd (w'.heap[gb425]? = some (.cells #[.int .i64 t417, .int .i64 t418, .int .i64 t419, .int .i64 t420, .string t421, (.slice Ao24 t422.length co24)] 24 (0, 0))) ∧ Asd (Below w.heap.size w w'))
              case atStart => exact ⟨(([] : List Int)), (([] : List Int)), (0), (by first | rfl | (simp; done) | (simp [*]; done)), H', ⟨Nat.le_refl _⟩, ⟨by (with_reducible repeat (first | apply Kd.R_alloc | apply Kd.R_drewN | apply Kd.R_drew)); exact Kd.R_mono (Kd.R_far (p := ⟨gb425, 5, none⟩) (Kd.R_far (p := ⟨gb425, 4, none⟩) (Kd.R_far (p := ⟨gb425, 3, none⟩) (Kd.R_far (p := ⟨gb425, 2, none⟩) (Kd.R_far (p := ⟨gb425, 1, none⟩) (Kd.R_far (p := ⟨gb425, 0, none⟩) (Kd.R_mono HO_12.out (fun k_ hk => (⟨hk, hk.2⟩ : _ ∧ k_ ≠ gb425))) (fun _ hk => hk.2) (.int .i64 t417)) (fun _ hk => hk.2) (.int .i64 t418)) (fun _ hk => hk.2) (.int .i64 t419)) (fun _ hk => hk.2) (.int .i64 t420)) (fun _ hk => hk.2) (.string t421)) (fun _ hk => hk.2) (.slice Ao24 t422.length co24)) (fun _ hk => hk.1.2)⟩, ⟨by first | exact Kd.R_nil _ _ _ _ _ | exact Kd.N_nil _ _ _ _ _ | exact Kd.V_nil _ _ _ _ _ | exact Kd.Q_nil _ _ _ _ _ | exact Kd.S_nil _ _ _ _ _⟩, ⟨by first | exact Kd.R_nil _ _ _ _ _ | exact Kd.N_nil _ _ _ _ _ | exact Kd.V_nil _ _ _ _ _ | exact Kd.Q_nil _ _ _ _ _ | exact Kd.S_nil _ _ _ _ _⟩, ⟨by (with_reducible repeat (first | apply Kd.V_alloc | apply Kd.V_drewN | apply Kd.V_drew)); exact Kd.V_mono (Kd.V_far (p := ⟨gb425, 5, none⟩) (Kd.V_far (p := ⟨gb425, 4, none⟩) (Kd.V_far (p := ⟨gb425, 3, none⟩) (Kd.V_far (p := ⟨gb425, 2, none⟩) (Kd.V_far (p := ⟨gb425, 1, none⟩) (Kd.V_far (p := ⟨gb425, 0, none⟩) (Kd.V_mono HO424.out (fun k_ hk => (⟨hk, hk.2⟩ : _ ∧ k_ ≠ gb425))) (fun _ hk => hk.2) (.int .i64 t417)) (fun _ hk => hk.2) (.int .i64 t418)) (fun _ hk => hk.2) (.int .i64 t419)) (fun _ hk => hk.2) (.int .i64 t420)) (fun _ hk => hk.2) (.string t421)) (fun _ hk => hk.2) (.slice Ao24 t422.length co24)) (fun _ hk => ⟨(by simp [Value.ownBlock]), ⟨(by simp [Value.ownBlock]), hk.1.2⟩⟩)⟩, ⟨by (with_reducible repeat (first | refine bDN ?_ _ | refine bDr ?_ | refine bAl ?_ _)); refine blk_put (cs := #[.int .i64 t417, .int .i64 t418, .int .i64 t419, .int .i64 t420, .string t421, .slice none 0 0]) ?_ 5 _ rfl; (with_reducible repeat (first | refine bDN ?_ _ | refine bDr ?_ | refine bAl ?_ _)); refine blk_put (cs := #[.int .i64 t417, .int .i64 t418, .int .i64 t419, .int .i64 t420, .string (⟨#[]⟩ : ByteArray), .slice none 0 0]) ?_ 4 _ rfl; (with_reducible repeat (first | refine bDN ?_ _ | refine bDr ?_ | refine bAl ?_ _)); refine blk_put (cs := #[.int .i64 t417, .int .i64 t418, .int .i64 t419, .int .i64 0, .string (⟨#[]⟩ : ByteArray), .slice none 0 0]) ?_ 3 _ rfl; (with_reducible repeat (first | refine bDN ?_ _ | refine bDr ?_ | refine bAl ?_ _)); refine blk_put (cs := #[.int .i64 t417, .int .i64 t418, .int .i64 0, .int .i64 0, .string (⟨#[]⟩ : ByteArray), .slice none 0 0]) ?_ 2 _ rfl; (with_reducible repeat (first | refine bDN ?_ _ | refine bDr ?_ | refine bAl ?_ _)); refine blk_put (cs := #[.int .i64 t417, .int .i64 0, .int .i64 0, .int .i64 0, .string (⟨#[]⟩ : ByteArray), .slice none 0 0]) ?_ 1 _ rfl; (with_reducible repeat (first | refine bDN ?_ _ | refine bDr ?_ | refine bAl ?_ _)); refine blk_put (cs := #[.int .i64 0, .int .i64 0, .int .i64 0, .int .i64 0, .string (⟨#[]⟩ : ByteArray), .slice none 0 0]) ?_ 0 _ rfl; (with_reducible repeat (first | refine bDN ?_ _ | refine bDr ?_ | refine bAl ?_ _)); exact BK425.out⟩, ⟨by repeat (first | (with_reducible first | exact HB.out | apply wAl | apply pDN | apply wDr | refine wSt ?_ GE425.out) | exact HB.out)⟩⟩
              case round =>
                clear H'
                try clear c1
                try clear q1
                try clear p2
                try clear c4
                try clear c6
                try clear p6
                try clear c7
                try clear c10
                try clear c10b0
                try clear c10b1
                try clear c11
                try clear c12
                try clear c13
                try clear c13b0
                try clear c13b1
                try clear q15
                try clear hcz23_0
                try clear hcz23_1
                try clear hcz23_2
                try clear hcz23_3
                try clear hcz23_4
                try clear hcz23_5
                try clear hfz23_0
                try clear hfz23_1
                try clear hfz23_2
                try clear hfz23_3
                try clear hfz23_4
                try clear hfz23_5
                try clear p2
                try clear p6
                try clear q1
                try clear q15
                obtain ⟨x14_4, x15_4, x16_4, rfl, HA, HK4, HO_12, HO_14, HO_15, HO_426005, BK425, HB⟩ := hrel
                cases gk with
                | zero => exact absurd HA.out (by simp [l20SimpValues.l0])
                | succ k4 =>
                  have H := HA.out
                  clear HA
                  simp only [l20SimpValues.l0] at H
                  by_cases c25 : x16_4 < (x12_10.length : Int)
                  · rw [if_pos c25] at H
                    have c25b0 : decide (x16_4 < (x12_10.length : Int)) = true := decide_eq_true c25
                    clear c25
                    by_cases c26 : x14_4.length < 17592186044416
                    · rw [if_pos c26] at H
                      have LMc26 := Asd.mk c26
                      clear c26
                      obtain ⟨y426, hy426⟩ : ∃ y_ : List Int, y_ = (x14_4 ++ [x9_4]) := ⟨_, rfl⟩
                      replace H : (if 0 ≤ x16_4 then (if x15_4.length < 17592186044416 then (l20SimpValues.l0 k4 a0 x9_4 x12_10 y426 (x15_4 ++ [(rd_T24 x12_10 x16_4).f3]) (wrap64 (x16_4 + 1)) t417 t418 t419 t420 t421 t422) else (none)) else (none)) = some r := by first | (rw [hy426]; with_reducible exact H) | (have H2_ := (Option.bind_some _ _).symm.trans H; rw [hy426]; with_reducible exact H2_) | (have H2_ := (Option.bind_some _ _).symm.trans H; with_reducible exact H2_) | with_reducible exact H | (rw [hy426]; exact H) | exact H
                      have Ny426 := Asd.mk hy426
                      clear hy426
                      by_cases c27 : 0 ≤ x16_4
                      · rw [if_pos c27] at H
                        have c27b0 : decide (0 ≤ x16_4) = true := decide_eq_true c27
                        clear c27
                        by_cases c28 : x15_4.length < 17592186044416
                        · rw [if_pos c28] at H
                          have LMc28 := Asd.mk c28
                          clear c28
                          obtain ⟨y430, hy430⟩ : ∃ y_ : List Int, y_ = (x15_4 ++ [(rd_T24 x12_10 x16_4).f3]) := ⟨_, rfl⟩
                          replace H : (l20SimpValues.l0 k4 a0 x9_4 x12_10 y426 y430 (wrap64 (x16_4 + 1)) t417 t418 t419 t420 t421 t422) = some r := by first | (rw [hy430]; with_reducible exact H) | (have H2_ := (Option.bind_some _ _).symm.trans H; rw [hy430]; with_reducible exact H2_) | (have H2_ := (Option.bind_some _ _).symm.trans H; with_reducible exact H2_) | with_reducible exact H | (rw [hy430]; exact H) | exact H
                          have Ny430 := Asd.mk hy430
                          clear hy430
                          have H' := Asd.mk H
                          clear H
                          go_wp2_with (first | ((with_reducible refine gate_builtin (b := .append) (xs := #[.tmp 55, .tmp 57]) rfl ?_); at_builtin; refine Kd.R_append (Kd.int .i64) (w0 := w) w.heap.size rfl (.tmp 55) (.tmp 57) 33 3 (.int .i64 0) 8 rfl Try.underlying33 info3 rfl (by decide) (by omega) u14 x14_4 x9_4 [.int .i64 x9_4] (fun k_ => some k_ ≠ (u15 : Value).ownBlock) (fun _ => False) rfl rfl ?aP (fun _ hk => hk.elim) ?aF ?aO ?aB ?aS ?aL ?_; (case aP => exact rfl); (case aB => exact (by repeat (first | (with_reducible first | exact HB.out | apply wAl | apply pDN | apply wDr | refine wSt ?_ GE425.out) | exact HB.out))); (case aF => exact (fun k_ hk => Kd.fresh' (Kd.R_lt (by (with_reducible repeat (first | apply Kd.R_alloc | apply Kd.R_drewN | apply Kd.R_drew)); exact HO_15.out)) k_ hk)); (case aO => exact (by (with_reducible repeat (first | apply Kd.R_alloc | apply Kd.R_drewN | apply Kd.R_drew)); exact HO_14.out)); (case aS => exact (wSz (by repeat (first | (with_reducible first | exact HB.out | apply wAl | apply pDN | apply wDr | refine wSt ?_ GE425.out) | exact HB.out)))); (case aL => have := LMc26.out; omega); intro v427 w29 ho hb hg hat; rw [← Ny426.out] at ho; have n0_ := Asd.mk (Kd.R_over' (by (with_reducible repeat (first | apply Kd.R_alloc | apply Kd.R_drewN | apply Kd.R_drew)); exact HO_12.out) (Kd.R_typed (by (with_reducible repeat (first | apply Kd.R_alloc | apply Kd.R_drewN | apply Kd.R_drew)); exact HO_14.out)) (by decide) hg); have n1_ := Asd.mk (Kd.R_after (ok := (fun _ => True)) (by (with_reducible repeat (first | apply Kd.R_alloc | apply Kd.R_drewN | apply Kd.R_drew)); exact Kd.R_mono HO_15.out (fun _ hk => ⟨trivial, hk⟩)) hg hat); have n2_ := Asd.mk (Kd.V_afterv (ok := (fun k_ => some k_ ≠ (u15 : Value).ownBlock ∧ k_ ≠ gb425)) (by (with_reducible repeat (first | apply Kd.V_alloc | apply Kd.V_drewN | apply Kd.V_drew)); exact Kd.V_mono HO_426005.out (fun _ hk => ⟨⟨hk.2.1, hk.2.2⟩, hk.1⟩)) hg hat); have n3_ := Asd.mk (blk_grown (g := gb425) (o := .cells #[.int .i64 t417, .int .i64 t418, .int .i64 t419, .int .i64 t420, .string t421, .slice Ao24 t422.length co24] 24 (0, 0)) (by (with_reducible repeat (first | refine bDN ?_ _ | refine bDr ?_ | refine bAl ?_ _)); exact BK425.out) hg (Kd.R_ne HO_14.out BK425.out (by decide))); have n4_ := Asd.mk (hb); have n5_ := Asd.mk (ho); clear HO_12; clear HO_15; clear HO_426005; clear BK425; clear HB; clear HO_14; have HO_12 := n0_; have HO_15 := n1_; have HO_426005 := n2_; have BK425 := n3_; have HB := n4_; have HO428 := n5_; clear n0_ n1_ n2_ n3_ n4_ n5_; clear ho hb hg hat; have p429 : 0 ≤ (x16_4 : Int) := of_decide_eq_true (by first | (with_reducible assumption) | assumption); have q429 : x16_4 < (x12_10.length : Int) := of_decide_eq_true (by first | (with_reducible assumption) | assumption); obtain ⟨ad429, A429_5, c429_5, e429, hx429_0, hx429_1, hx429_2, hx429_3, hx429_4, hx429_5, hl429_5, hi429_5⟩ := at_T24 (Kd.R_reads' HO_12.out).2.2 x16_4 p429 q429; cases e429; obtain ⟨ce429, hce429, hMe429, hcc429⟩ := Kd.R_get HO_12.out z24 x16_4 p429 (by first | exact q429 | exact of_decide_eq_true (by first | (with_reducible assumption) | assumption) | (have e_ := (Kd.R_reads' HO_12.out).1; omega)); obtain ⟨ve429_5, rfl, ge429_5⟩ := k24_openM hMe429; have hv429_5 := hcc429 5 _ rfl; rw [add_field _ _ 5 (by omega)] at hv429_5; replace hv429_5 := Option.some.inj (hv429_5.symm.trans hx429_5); rw [hv429_5] at ge429_5; have HL429_5 := Asd.mk (show Kd.R k24 24 _ _ _ _ ((rd_T24 x12_10 x16_4).f5) from ge429_5); clear hv429_5 ge429_5; clear hcc429 hce429; have HR429_5 := Asd.mk hi429_5; have HC429_5 := Asd.mk hl429_5; clear hi429_5 hl429_5; replace p429 := eq_true p429; replace q429 := eq_true q429) | ((with_reducible refine gate_builtin (b := .append) (xs := #[.tmp 59, .tmp 65]) rfl ?_); at_builtin; refine Kd.R_append (Kd.int .i64) (w0 := w) w.heap.size rfl (.tmp 59) (.tmp 65) 33 3 (.int .i64 0) 8 rfl Try.underlying33 info3 rfl (by decide) (by omega) u15 x15_4 ((rd_T24 x12_10 x16_4).f3) [.int .i64 ((rd_T24 x12_10 x16_4).f3)] (fun k_ => some k_ ≠ (v427 : Value).ownBlock) (fun _ => False) rfl rfl ?aP (fun _ hk => hk.elim) ?aF ?aO ?aB ?aS ?aL ?_; (case aP => exact rfl); (case aB => exact (by repeat (first | (with_reducible first | exact HB.out | apply wAl | apply pDN | apply wDr | refine wSt ?_ GE425.out) | exact HB.out))); (case aF => exact (fun k_ hk => Kd.fresh' (Kd.R_lt (by (with_reducible repeat (first | apply Kd.R_alloc | apply Kd.R_drewN | apply Kd.R_drew)); exact HO428.out)) k_ hk)); (case aO => exact (by (with_reducible repeat (first | apply Kd.R_alloc | apply Kd.R_drewN | apply Kd.R_drew)); exact Kd.R_mono HO_15.out (fun _ hk => hk.2))); (case aS => exact (wSz (by repeat (first | (with_reducible first | exact HB.out | apply wAl | apply pDN | apply wDr | refine wSt ?_ GE425.out) | exact HB.out)))); (case aL => have := LMc28.out; omega); intro v431 w30 ho hb hg hat; rw [← Ny430.out] at ho; have n0_ := Asd.mk (Kd.R_over' (by (with_reducible repeat (first | apply Kd.R_alloc | apply Kd.R_drewN | apply Kd.R_drew)); exact HO_12.out) (Kd.R_typed (by (with_reducible repeat (first | apply Kd.R_alloc | apply Kd.R_drewN | apply Kd.R_drew)); exact HO_15.out)) (by decide) hg); have n1_ := Asd.mk (Kd.V_afterv (ok := (fun k_ => some k_ ≠ (v427 : Value).ownBlock ∧ k_ ≠ gb425)) (by (with_reducible repeat (first | apply Kd.V_alloc | apply Kd.V_drewN | apply Kd.V_drew)); exact Kd.V_mono HO_426005.out (fun _ hk => ⟨⟨hk.2, hk.1.2⟩, hk.1.1⟩)) hg hat); have n2_ := Asd.mk (blk_grown (g := gb425) (o := .cells #[.int .i64 t417, .int .i64 t418, .int .i64 t419, .int .i64 t420, .string t421, .slice Ao24 t422.length co24] 24 (0, 0)) (by (with_reducible repeat (first | refine bDN ?_ _ | refine bDr ?_ | refine bAl ?_ _)); exact BK425.out) hg (Kd.R_ne HO_15.out BK425.out (by decide))); have n3_ := Asd.mk (Kd.R_after (ok := (fun _ => True)) (by (with_reducible repeat (first | apply Kd.R_alloc | apply Kd.R_drewN | apply Kd.R_drew)); exact Kd.R_mono HO428.out (fun _ hk => ⟨trivial, hk⟩)) hg hat); have n4_ := Asd.mk (Kd.R_over' (by (with_reducible repeat (first | apply Kd.R_alloc | apply Kd.R_drewN | apply Kd.R_drew)); exact HL429_5.out) (Kd.R_typed (by (with_reducible repeat (first | apply Kd.R_alloc | apply Kd.R_drewN | apply Kd.R_drew)); exact HO_15.out)) (by decide) hg); have n5_ := Asd.mk (hb); have n6_ := Asd.mk (ho); clear HO_12; clear HO_426005; clear BK425; clear HO428; clear HL429_5; clear HB; clear HO_15; have HO_12 := n0_; have HO_426005 := n1_; have BK425 := n2_; have HO428 := n3_; have HL429_5 := n4_; have HB := n5_; have HO432 := n6_; clear n0_ n1_ n2_ n3_ n4_ n5_ n6_; clear ho hb hg hat))
                          go_roundg k4
                          case measure => have := HJ4.out; have := HJ6.out; have := HJ10.out; have := HK4.out; omega
                          case rel => exact ⟨(y426), (y430), (wrap64 (x16_4 + 1)), (by first | rfl | (simp; done) | (simp [*]; done)), H', ⟨by have := HJ4.out; have := HJ6.out; have := HJ10.out; have := HK4.out; omega⟩, ⟨by (with_reducible repeat (first | apply Kd.R_alloc | apply Kd.R_drewN | apply Kd.R_drew)); exact HO_12.out⟩, ⟨by (with_reducible repeat (first | apply Kd.R_alloc | apply Kd.R_drewN | apply Kd.R_drew)); exact Kd.R_mono HO428.out (fun _ hk => hk.2)⟩, ⟨by (with_reducible repeat (first | apply Kd.R_alloc | apply Kd.R_drewN | apply Kd.R_drew)); exact HO432.out⟩, ⟨by (with_reducible repeat (first | apply Kd.V_alloc | apply Kd.V_drewN | apply Kd.V_drew)); exact Kd.V_mono HO_426005.out (fun _ hk => ⟨hk.1.1, ⟨hk.2, hk.1.2⟩⟩)⟩, ⟨by (with_reducible repeat (first | refine bDN ?_ _ | refine bDr ?_ | refine bAl ?_ _)); exact BK425.out⟩, ⟨by repeat (first | (with_reducible first | exact HB.out | apply wAl | apply pDN | apply wDr | refine wSt ?_ GE425.out) | exact HB.out)⟩⟩
                        · rw [if_neg c28] at H
                          exact absurd H (by simp)
                      · rw [if_neg c27] at H
                        exact absurd H (by simp)
                    · rw [if_neg c26] at H
                      exact absurd H (by simp)
                  · rw [if_neg c25] at H
                    have c25b0 : decide (x16_4 < (x12_10.length : Int)) = false := decide_eq_false c25
                    clear c25
                    replace H := Option.bind_eq_some_iff.mp H
                    obtain ⟨⟨t433, t434⟩, A310, H⟩ := H
                    replace H : ((vAp.f k4 a0 x15_4).bind fun bt435 => (if t434 = 0 then (l20SimpValues.j4 k4 a0 x12_10 t433 bt435.1 (bt435.2 == 0) t417 t418 t419 t420 t421 t422) else (l20SimpValues.j4 k4 a0 x12_10 t433 bt435.1 false t417 t418 t419 t420 t421 t422))) = some r := H
                    have A31 := Asd.mk A310
                    clear A310
                    replace H := Option.bind_eq_some_iff.mp H
                    obtain ⟨⟨t435, t436⟩, A320, H⟩ := H
                    replace H : (if t434 = 0 then (l20SimpValues.j4 k4 a0 x12_10 t433 t435 (t436 == 0) t417 t418 t419 t420 t421 t422) else (l20SimpValues.j4 k4 a0 x12_10 t433 t435 false t417 t418 t419 t420 t421 t422)) = some r := H
                    have A32 := Asd.mk A320
                    clear A320
                    have HC33 := Asd.mk H
                    clear H
                    obtain ⟨Ao34, co34, eo34⟩ := Kd.R_slice HO_14.out
                    subst eo34
                    go_upto_region 16 with (first | ((with_reducible refine gate_callee (f := 12) rfl ?_); refine goesL_ (some 70) rfl rfl Try.func12 (by kernel_rfl) rfl #[.int .i64 a0, .slice Ao34 x14_4.length co34] rfl (by (try simp only [List.map_toArray, List.map_cons, List.map_nil]); first | done | rfl | (simp only [List.length_drop, List.length_take]; rfl)) ?_; (with_reducible refine (vRe.calls k4 a0 _ _ x14_4 t433 t434 _ ?side1 ?side2 A31.out).mono ?_); (case side1 => repeat (first | exact (Kd.R_reads' HO_14.out).2.2 | (with_reducible refine Kd.C_alloc ?_ _) | (with_reducible refine Kd.C_drewN ?_ _) | (with_reducible refine Kd.C_drew ?_))); (case side2 => exact (Kd.R_reads' HO_14.out).2.1); rintro e w' ⟨rfl, ⟨nd, rfl⟩⟩; refine ⟨_, rfl, ?_⟩; obtain ⟨Ao35, co35, eo35⟩ := Kd.R_slice HO_15.out; subst eo35) | ((with_reducible refine gate_callee (f := 13) rfl ?_); refine goesL_ (some 76) rfl rfl Try.func13 (by kernel_rfl) rfl #[.int .i64 a0, .slice Ao35 x15_4.length co35] rfl (by (try simp only [List.map_toArray, List.map_cons, List.map_nil]); first | done | rfl | (simp only [List.length_drop, List.length_take]; rfl)) ?_; (with_reducible refine (vAp.calls k4 a0 _ _ x15_4 t435 t436 _ ?side1 ?side2 A32.out).mono ?_); (case side1 => repeat (first | exact (Kd.R_reads' HO_15.out).2.2 | (with_reducible refine Kd.C_alloc ?_ _) | (with_reducible refine Kd.C_drewN ?_ _) | (with_reducible refine Kd.C_drew ?_))); (case side2 => exact (Kd.R_reads' HO_15.out).2.1); rintro e w' ⟨rfl, ⟨nd, rfl⟩⟩; refine ⟨_, rfl, ?_⟩))
                    (try simp only [Act.put, List.setIfInBounds_toArray, List.set_cons_zero, List.set_cons_succ])
                    go_cut [84] (fun v84 wc => ∃ (kq : Nat) (x84_32 : Bool), v84 = .bool x84_32 ∧ Asd (l20SimpValues.j4 kq a0 x12_10 t433 t435 x84_32 t417 t418 t419 t420 t421 t422 = some r) ∧ Asd (kq ≤ k4) ∧ Asd (Kd.R k24 24 wc w.heap.size (fun k_ => k_ ≠ gb425) (.slice Ao18 x12_10.length co18) x12_10) ∧ Asd (Kd.V k24 24 wc w.heap.size (fun k_ => k_ ≠ gb425) (.slice Ao24 t422.length co24) t422) ∧ Asd (wc.heap[gb425]? = some (.cells #[.int .i64 t417, .int .i64 t418, .int .i64 t419, .int .i64 t420, .string t421, (.slice Ao24 t422.length co24)] 24 (0, 0))) ∧ Asd (Below w.heap.size w wc))
                    case first =>
                      have H := HC33.out
                      clear HC33
                      by_cases c36 : t434 = 0
                      · rw [if_pos c36] at H
                        have c36b0 : (t434 == 0) = true := beq_iff_eq.mpr c36
                        have c36b1 : (t434 != 0) = false := bne_eq_false_iff_eq.mpr c36
                        clear c36
                        (first | rw [c36b0] | (simp only [i64_w, i32_w]; rw [c36b0]) | skip)
                        have H' := Asd.mk H
                        clear H
                        go_wp2
                        go_meet
                        case rel => exact ⟨_, ((t436 == 0)), (by first | rfl | (simp; done) | (simp [*]; done)), H', ⟨by have := HJ4.out; have := HJ6.out; have := HJ10.out; have := HK4.out; first | omega | exact Nat.le_refl _⟩, ⟨by (with_reducible repeat (first | apply Kd.R_alloc | apply Kd.R_drewN | apply Kd.R_drew)); exact HO_12.out⟩, ⟨by (with_reducible repeat (first | apply Kd.V_alloc | apply Kd.V_drewN | apply Kd.V_drew)); exact Kd.V_mono HO_426005.out (fun _ hk => hk.2.2)⟩, ⟨by (with_reducible repeat (first | refine bDN ?_ _ | refine bDr ?_ | refine bAl ?_ _)); exact BK425.out⟩, ⟨by repeat (first | (with_reducible first | exact HB.out | apply wAl | apply pDN | apply wDr | refine wSt ?_ GE425.out) | exact HB.out)⟩⟩
                      · rw [if_neg c36] at H
                        have c36b0 : (t434 == 0) = false := beq_eq_false_iff_ne.mpr c36
                        have c36b1 : (t434 != 0) = true := bne_iff_ne.mpr c36
                        (first | rw [c36b0] | (simp only [i64_w, i32_w]; rw [c36b0]) | skip)
                        have H' := Asd.mk H
                        clear H
                        go_wp2
                        go_meet
                        case rel => exact ⟨_, (false), (by first | rfl | (simp; done) | (simp [*]; done)), H', ⟨by have := HJ4.out; have := HJ6.out; have := HJ10.out; have := HK4.out; first | omega | exact Nat.le_refl _⟩, ⟨by (with_reducible repeat (first | apply Kd.R_alloc | apply Kd.R_drewN | apply Kd.R_drew)); exact HO_12.out⟩, ⟨by (with_reducible repeat (first | apply Kd.V_alloc | apply Kd.V_drewN | apply Kd.V_drew)); exact Kd.V_mono HO_426005.out (fun _ hk => hk.2.2)⟩, ⟨by (with_reducible repeat (first | refine bDN ?_ _ | refine bDr ?_ | refine bAl ?_ _)); exact BK425.out⟩, ⟨by repeat (first | (with_reducible first | exact HB.out | apply wAl | apply pDN | apply wDr | refine wSt ?_ GE425.out) | exact HB.out)⟩⟩
                    case rest =>
                      clear HC33
                      try clear c1
                      try clear q1
                      try clear c2
                      try clear p2
                      try clear c3
                      try clear c4
                      try clear p4
                      try clear q4
                      try clear hx4
                      try clear c6
                      try clear p6
                      try clear c7
                      try clear c10
                      try clear c10b0
                      try clear c10b1
                      try clear c11
                      try clear c12
                      try clear c13
                      try clear c13b0
                      try clear c13b1
                      try clear q15
                      try clear c25
                      try clear c25b0
                      try clear c26
                      try clear c27
                      try clear c27b0
                      try clear c28
                      try clear c36
                      try clear c36b0
                      try clear c36b1
                      try clear hcz23_0
                      try clear hcz23_1
                      try clear hcz23_2
                      try clear hcz23_3
                      try clear hcz23_4
                      try clear hcz23_5
                      try clear hfz23_0
                      try clear hfz23_1
                      try clear hfz23_2
                      try clear hfz23_3
                      try clear hfz23_4
                      try clear hfz23_5
                      try clear hx429_0
                      try clear hx429_1
                      try clear hx429_2
                      try clear hx429_3
                      try clear hx429_4
                      try clear hx429_5
                      try clear p2
                      try clear p429
                      try clear p6
                      try clear q1
                      try clear q15
                      try clear q429
                      obtain ⟨kq, x84_32, rfl, HA, HJ32, HO_12, HO_426005, BK425, HB⟩ := hcut
                      cases kq with
                      | zero => exact absurd HA.out (by simp [l20SimpValues.j4])
                      | succ kj32 =>
                        have H := HA.out
                        clear HA
                        simp only [l20SimpValues.j4] at H
                        by_cases c37 : x84_32 = true
                        · subst c37
                          have H1 : ((r20Is.f t417 t418 t419 t420 t421 t422 t433 t435).bind fun t437 => (if t437 = true then ((l20lives.f).bind fun t438 => (some t438)) else (some false))) = some r := by rw [if_pos rfl] at H; exact H
                          clear H
                          have H := H1
                          clear H1
                          replace H := Option.bind_eq_some_iff.mp H
                          obtain ⟨t437, A380, H⟩ := H
                          replace H : (if t437 = true then ((l20lives.f).bind fun t438 => (some t438)) else (some false)) = some r := H
                          have A38 := Asd.mk A380
                          clear A380
                          by_cases c39 : t437 = true
                          · subst c39
                            have H1 : ((l20lives.f).bind fun t438 => (some t438)) = some r := by rw [if_pos rfl] at H; exact H
                            clear H
                            have H := H1
                            clear H1
                            replace H := Option.bind_eq_some_iff.mp H
                            obtain ⟨t438, A400, H⟩ := H
                            replace H : (some t438) = some r := H
                            have A40 := Asd.mk A400
                            clear A400
                            obtain rfl := Option.some.inj H
                            have hcz41_0 : wc.cell? ⟨gb425, 0, none⟩ = some (.int .i64 t417) := (bCl BK425.out 0).trans rfl
                            have hcz41_1 : wc.cell? ⟨gb425, 1, none⟩ = some (.int .i64 t418) := (bCl BK425.out 1).trans rfl
                            have hcz41_2 : wc.cell? ⟨gb425, 2, none⟩ = some (.int .i64 t419) := (bCl BK425.out 2).trans rfl
                            have hcz41_3 : wc.cell? ⟨gb425, 3, none⟩ = some (.int .i64 t420) := (bCl BK425.out 3).trans rfl
                            have hcz41_4 : wc.cell? ⟨gb425, 4, none⟩ = some (.string t421) := (bCl BK425.out 4).trans rfl
                            have hcz41_5 : wc.cell? ⟨gb425, 5, none⟩ = some (.slice Ao24 t422.length co24) := (bCl BK425.out 5).trans rfl
                            have hfz41_0 := bFz BK425.out 0
                            have hfz41_1 := bFz BK425.out 1
                            have hfz41_2 := bFz BK425.out 2
                            have hfz41_3 := bFz BK425.out 3
                            have hfz41_4 := bFz BK425.out 4
                            have hfz41_5 := bFz BK425.out 5
                            go_wp2_with (first | ((with_reducible refine gate_callee (f := 14) rfl ?_); refine goesL_ (some 88) rfl rfl Try.func14 (by kernel_rfl) rfl #[.agg #[.int .i64 t417, .int .i64 t418, .int .i64 t419, .int .i64 t420, .string t421, .slice Ao24 t422.length co24], .int .i64 t433, .int .i64 t435] rfl (by (try simp only [List.map_toArray, List.map_cons, List.map_nil]); first | done | rfl | (simp only [List.length_drop, List.length_take]; rfl)) ?_; (with_reducible refine (r20Is.calls t417 t418 t419 t420 t421 _ _ t422 t433 t435 true _ ?side1 ?side2 A38.out).mono ?_); (case side1 => repeat (first | exact (Kd.V_reads' HO_426005.out).2.2 | (with_reducible refine Kd.C_alloc ?_ _) | (with_reducible refine Kd.C_drewN ?_ _) | (with_reducible refine Kd.C_drew ?_))); (case side2 => exact (Kd.V_reads' HO_426005.out).2.1); rintro e w42 ⟨rfl, hb⟩; refine ⟨_, rfl, ?_⟩; have n0_ := Asd.mk (Kd.R_below (by (with_reducible repeat (first | apply Kd.R_alloc | apply Kd.R_drewN | apply Kd.R_drew)); exact HO_12.out) hb); have n1_ := Asd.mk (Kd.V_below (by (with_reducible repeat (first | apply Kd.V_alloc | apply Kd.V_drewN | apply Kd.V_drew)); exact HO_426005.out) hb); have n2_ := Asd.mk (blk_below (g := gb425) (o := .cells #[.int .i64 t417, .int .i64 t418, .int .i64 t419, .int .i64 t420, .string t421, .slice Ao24 t422.length co24] 24 (0, 0)) (by (with_reducible repeat (first | refine bDN ?_ _ | refine bDr ?_ | refine bAl ?_ _)); exact BK425.out) hb); have n3_ := Asd.mk (wSp (by repeat (first | (with_reducible first | exact HB.out | apply wAl | apply pDN | apply wDr | refine wSt ?_ GE425.out) | exact HB.out)) hb); clear HO_12; clear HO_426005; clear BK425; clear HB; have HO_12 := n0_; have HO_426005 := n1_; have BK425 := n2_; have HB := n3_; clear n0_ n1_ n2_ n3_; (try clear hb); (try clear hb2); (try clear hk); (try clear hi)) | (go_at_call 6; (with_reducible refine (l20lives.calls  t438 _ A40.out).mono ?_); rintro e w43 ⟨rfl, hb⟩; have n0_ := Asd.mk (Kd.R_below (by (with_reducible repeat (first | apply Kd.R_alloc | apply Kd.R_drewN | apply Kd.R_drew)); exact HO_12.out) hb); have n1_ := Asd.mk (Kd.V_below (by (with_reducible repeat (first | apply Kd.V_alloc | apply Kd.V_drewN | apply Kd.V_drew)); exact HO_426005.out) hb); have n2_ := Asd.mk (blk_below (g := gb425) (o := .cells #[.int .i64 t417, .int .i64 t418, .int .i64 t419, .int .i64 t420, .string t421, .slice Ao24 t422.length co24] 24 (0, 0)) (by (with_reducible repeat (first | refine bDN ?_ _ | refine bDr ?_ | refine bAl ?_ _)); exact BK425.out) hb); have n3_ := Asd.mk (wSp (by repeat (first | (with_reducible first | exact HB.out | apply wAl | apply pDN | apply wDr | refine wSt ?_ GE425.out) | exact HB.out)) hb); clear HO_12; clear HO_426005; clear BK425; clear HB; have HO_12 := n0_; have HO_426005 := n1_; have BK425 := n2_; have HB := n3_; clear n0_ n1_ n2_ n3_; (try clear hb); (try clear hb2); (try clear hk); (try clear hi)))
                            go_ret
                            exact ⟨by first | rfl | (simp [errW_none, errW_some] <;> rfl) | (simp [*, errW_none, errW_some] <;> rfl), by repeat (first | (with_reducible first | exact HB.out | apply wAl | apply pDN | apply wDr | refine wSt ?_ GE425.out) | exact HB.out)⟩
                          · rw [if_neg c39] at H
                            exact absurd (Option.some.inj H) (by rw [hrt.out]; simp)
                        · replace c37 := Bool.eq_false_iff.mpr c37
                          subst c37
                          have H1 : ((l20op.f a0 x12_10).bind fun bt439 => ((r20Fold.f kj32 bt439.1 bt439.2.1 bt439.2.2.1 bt439.2.2.2.1 bt439.2.2.2.2.1 bt439.2.2.2.2.2).bind fun bt447 => ((r06Same.f kj32 t417 t418 t419 t420 t421 t422 bt447.1 bt447.2.1 bt447.2.2.1 bt447.2.2.2.1 bt447.2.2.2.2.1 bt447.2.2.2.2.2).bind fun t455 => (if t455 = true then ((l20lives.f).bind fun t456 => (some t456)) else (some false))))) = some r := by rw [if_neg (show ¬ (false = true) by decide)] at H; exact H
                          clear H
                          have H := H1
                          clear H1
                          replace H := Option.bind_eq_some_iff.mp H
                          obtain ⟨⟨t439, t440, t441, t442, t443, t444⟩, A460, H⟩ := H
                          replace H : ((r20Fold.f kj32 t439 t440 t441 t442 t443 t444).bind fun bt447 => ((r06Same.f kj32 t417 t418 t419 t420 t421 t422 bt447.1 bt447.2.1 bt447.2.2.1 bt447.2.2.2.1 bt447.2.2.2.2.1 bt447.2.2.2.2.2).bind fun t455 => (if t455 = true then ((l20lives.f).bind fun t456 => (some t456)) else (some false)))) = some r := H
                          have A46 := Asd.mk A460
                          clear A460
                          replace H := Option.bind_eq_some_iff.mp H
                          obtain ⟨⟨t447, t448, t449, t450, t451, t452⟩, A470, H⟩ := H
                          replace H : ((r06Same.f kj32 t417 t418 t419 t420 t421 t422 t447 t448 t449 t450 t451 t452).bind fun t455 => (if t455 = true then ((l20lives.f).bind fun t456 => (some t456)) else (some false))) = some r := H
                          have A47 := Asd.mk A470
                          clear A470
                          replace H := Option.bind_eq_some_iff.mp H
                          obtain ⟨t455, A480, H⟩ := H
                          replace H : (if t455 = true then ((l20lives.f).bind fun t456 => (some t456)) else (some false)) = some r := H
                          have A48 := Asd.mk A480
                          clear A480
                          by_cases c49 : t455 = true
                          · subst c49
                            have H1 : ((l20lives.f).bind fun t456 => (some t456)) = some r := by rw [if_pos rfl] at H; exact H
                            clear H
                            have H := H1
                            clear H1
                            replace H := Option.bind_eq_some_iff.mp H
                            obtain ⟨t456, A500, H⟩ := H
                            replace H : (some t456) = some r := H
                            have A50 := Asd.mk A500
                            clear A500
                            obtain rfl := Option.some.inj H
                            try go_wp2
                            have n0_ := Asd.mk (Kd.R_drew HO_12.out)
                            have n1_ := Asd.mk (Kd.V_drew HO_426005.out)
                            have n2_ := Asd.mk (bDr BK425.out)
                            have n3_ := Asd.mk (wDr HB.out)
                            clear HO_12
                            clear HO_426005
                            clear BK425
                            clear HB
                            have HO_12 := n0_
                            have HO_426005 := n1_
                            have BK425 := n2_
                            have HB := n3_
                            clear n0_ n1_ n2_ n3_
                            refine start_ (n := 10) (S := fun w' => w'.cell? ⟨gb425, 0, none⟩ = some (.int .i64 t417) ∧ w'.cell? ⟨gb425, 1, none⟩ = some (.int .i64 t418) ∧ w'.cell? ⟨gb425, 2, none⟩ = some (.int .i64 t419) ∧ w'.cell? ⟨gb425, 3, none⟩ = some (.int .i64 t420) ∧ w'.cell? ⟨gb425, 4, none⟩ = some (.string t421) ∧ w'.cell? ⟨gb425, 5, none⟩ = some (.slice Ao24 t422.length co24)) (ds := []) #[false, false, false, false, false, false, false, false, false, false] (by kernel_rfl) rfl rfl ⟨(bCl BK425.out 0).trans rfl, (bCl BK425.out 1).trans rfl, (bCl BK425.out 2).trans rfl, (bCl BK425.out 3).trans rfl, (bCl BK425.out 4).trans rfl, (bCl BK425.out 5).trans rfl⟩ (fun hHeld => ?_); refine with_tabW l20SimpValues.tab18 l20SimpValues.bits18 (fun HT_ HW_ => ?_)
                            generalize wc.drew = w51 at HO_12 HO_426005 BK425 HB hHeld ⊢
                            refine pure_ (i := 1) (N := some 93) (v := ?_) (a' := ?_) #[false, true, false, false, false, false, false, false, false, false] rfl rfl (any_of HT_.out (by kernel_rfl)) (fun _ _ _ h => h) (Or.inl ⟨by rfl, ?_⟩) ?_ ?_
                            rotate_left
                            · intro w'
                              go_simp
                              with_reducible rfl
                            rotate_left
                            · simp only [Act.put, List.setIfInBounds_toArray, List.set_cons_zero, List.set_cons_succ, i64_w, i32_w]
                              rfl
                            refine pure_ (i := 2) (N := some 94) (v := ?_) (a' := ?_) #[false, true, true, false, false, false, false, false, false, false] rfl rfl (any_of HT_.out (by kernel_rfl)) (fun _ _ _ h => h) (Or.inl ⟨by rfl, ?_⟩) ?_ ?_
                            rotate_left
                            · intro w'
                              go_simp
                              with_reducible rfl
                            rotate_left
                            · simp only [Act.put, List.setIfInBounds_toArray, List.set_cons_zero, List.set_cons_succ, i64_w, i32_w]
                              rfl
                            refine take_ (i := 0) (N := some 92) (v := ?_) (a' := ?_) #[true, true, true, false, false, false, false, false, false, false] rfl rfl (take_ofW HT_.out HW_.out (by kernel_rfl)) (fun _ _ _ h => h) (Or.inl ⟨by rfl, ?_⟩) hHeld ?_ ?_
                            rotate_left
                            · rintro w' ⟨s0, s1, s2, s3, s4, s5⟩
                              go_simp
                              with_reducible rfl
                            rotate_left
                            · simp only [Act.put, List.setIfInBounds_toArray, List.set_cons_zero, List.set_cons_succ, i64_w, i32_w]
                              rfl
                            refine one_ (i := 3) (N := some 95) #[true, true, true, true, false, false, false, false, false, false] rfl rfl (one_of HT_.out (by kernel_rfl)) (by decide) (fun K hK => ?_)
                            refine goes_ Try.func11 (by kernel_rfl) rfl #[.int .i64 a0, .slice Ao18 x12_10.length co18] (by rfl) rfl rfl (by (try simp only [List.map_toArray, List.map_cons, List.map_nil]); first | done | rfl | (simp only [List.length_drop, List.length_take]; rfl)) ?_
                            with_reducible refine (l20op.calls a0 (fun k_ => k_ ≠ gb425) _ _ x12_10 t439 t440 t441 t442 t443 t444 _ ?side1 A46.out).mono ?_
                            (case side1 => exact Kd.R_V (HO_12.out))
                            rintro e w52 ⟨v445, rfl, ho0, hb⟩
                            refine ⟨_, rfl, ?_⟩
                            have n0_ := Asd.mk (Kd.R_below (by (with_reducible repeat (first | apply Kd.R_alloc | apply Kd.R_drewN | apply Kd.R_drew)); exact HO_12.out) hb)
                            have n1_ := Asd.mk (Kd.V_below (by (with_reducible repeat (first | apply Kd.V_alloc | apply Kd.V_drewN | apply Kd.V_drew)); exact HO_426005.out) hb)
                            have n2_ := Asd.mk (Kd.V_lower (Kd.V_mono (ok' := fun k_ => k_ ≠ gb425) ho0 (fun k_ hk_ => Or.elim hk_ (fun hs_ => hs_) (fun hn_ => (Kd.freshB (g := gb425) (o := .cells #[.int .i64 t417, .int .i64 t418, .int .i64 t419, .int .i64 t420, .string t421, .slice Ao24 t422.length co24] 24 (0, 0)) (by (with_reducible repeat (first | refine bDN ?_ _ | refine bDr ?_ | refine bAl ?_ _)); exact BK425.out) k_ hn_)))) (wSz (by repeat (first | (with_reducible first | exact HB.out | apply wAl | apply pDN | apply wDr | refine wSt ?_ GE425.out) | exact HB.out))))
                            have n3_ := Asd.mk (blk_below (g := gb425) (o := .cells #[.int .i64 t417, .int .i64 t418, .int .i64 t419, .int .i64 t420, .string t421, .slice Ao24 t422.length co24] 24 (0, 0)) (by (with_reducible repeat (first | refine bDN ?_ _ | refine bDr ?_ | refine bAl ?_ _)); exact BK425.out) hb)
                            have n4_ := Asd.mk (wSp (by repeat (first | (with_reducible first | exact HB.out | apply wAl | apply pDN | apply wDr | refine wSt ?_ GE425.out) | exact HB.out)) hb)
                            clear HO_12
                            clear HO_426005
                            clear BK425
                            clear HB
                            have HO_12 := n0_
                            have HO_426005 := n1_
                            have HO446 := n2_
                            have BK425 := n3_
                            have HB := n4_
                            clear n0_ n1_ n2_ n3_ n4_
                            (try clear hb)
                            (try clear hb2)
                            (try clear hk)
                            (try clear hi)
                            (try clear ho0)
                            obtain ⟨Ao53, co53, eo53⟩ := Kd.V_slice HO446.out
                            (first | subst eo53 | (injection eo53 with f1_ f2_ f3_; have f4_ := f1_.symm; have f5_ := f3_.symm; clear f1_ f2_ f3_; subst f4_; subst f5_))
                            refine hK.out _ _ ⟨(bCl BK425.out 0).trans rfl, (bCl BK425.out 1).trans rfl, (bCl BK425.out 2).trans rfl, (bCl BK425.out 3).trans rfl, (bCl BK425.out 4).trans rfl, (bCl BK425.out 5).trans rfl⟩ (fun hHeld => ?_)
                            clear hK K
                            refine norm_ (a' := ?_) ?_ ?_
                            rotate_left
                            · show Act.put _ (some 95) _ = _
                              simp only [Act.put, List.setIfInBounds_toArray, List.set_cons_zero, List.set_cons_succ, i64_w, i32_w]
                              rfl
                            refine one_ (i := 4) (N := some 96) #[true, true, true, true, true, false, false, false, false, false] rfl rfl (one_of HT_.out (by kernel_rfl)) (by decide) (fun K hK => ?_)
                            refine goes_ Try.func9 (by kernel_rfl) rfl #[.agg #[.int .i64 t439, .int .i64 t440, .int .i64 t441, .int .i64 t442, .string t443, .slice Ao53 t444.length co53]] (by rfl) rfl rfl (by (try simp only [List.map_toArray, List.map_cons, List.map_nil]); first | done | rfl | (simp only [List.length_drop, List.length_take]; rfl)) ?_
                            with_reducible refine (r20Fold.calls kj32 t439 t440 t441 t442 t443 (fun k_ => k_ ≠ gb425) _ _ t444 t447 t448 t449 t450 t451 t452 _ ?side1 A47.out).mono ?_
                            (case side1 => exact HO446.out)
                            rintro e w54 ⟨v453, rfl, ho0, hb⟩
                            refine ⟨_, rfl, ?_⟩
                            have n0_ := Asd.mk (Kd.R_below (by (with_reducible repeat (first | apply Kd.R_alloc | apply Kd.R_drewN | apply Kd.R_drew)); exact HO_12.out) hb)
                            have n1_ := Asd.mk (Kd.V_below (by (with_reducible repeat (first | apply Kd.V_alloc | apply Kd.V_drewN | apply Kd.V_drew)); exact HO_426005.out) hb)
                            have n2_ := Asd.mk (Kd.V_below (by (with_reducible repeat (first | apply Kd.V_alloc | apply Kd.V_drewN | apply Kd.V_drew)); exact HO446.out) hb)
                            have n3_ := Asd.mk (Kd.V_lower (Kd.V_mono (ok' := fun k_ => k_ ≠ gb425) ho0 (fun k_ hk_ => Or.elim hk_ (fun hs_ => hs_) (fun hn_ => (Kd.freshB (g := gb425) (o := .cells #[.int .i64 t417, .int .i64 t418, .int .i64 t419, .int .i64 t420, .string t421, .slice Ao24 t422.length co24] 24 (0, 0)) (by (with_reducible repeat (first | refine bDN ?_ _ | refine bDr ?_ | refine bAl ?_ _)); exact BK425.out) k_ hn_)))) (wSz (by repeat (first | (with_reducible first | exact HB.out | apply wAl | apply pDN | apply wDr | refine wSt ?_ GE425.out) | exact HB.out))))
                            have n4_ := Asd.mk (blk_below (g := gb425) (o := .cells #[.int .i64 t417, .int .i64 t418, .int .i64 t419, .int .i64 t420, .string t421, .slice Ao24 t422.length co24] 24 (0, 0)) (by (with_reducible repeat (first | refine bDN ?_ _ | refine bDr ?_ | refine bAl ?_ _)); exact BK425.out) hb)
                            have n5_ := Asd.mk (wSp (by repeat (first | (with_reducible first | exact HB.out | apply wAl | apply pDN | apply wDr | refine wSt ?_ GE425.out) | exact HB.out)) hb)
                            clear HO_12
                            clear HO_426005
                            clear HO446
                            clear BK425
                            clear HB
                            have HO_12 := n0_
                            have HO_426005 := n1_
                            have HO446 := n2_
                            have HO454 := n3_
                            have BK425 := n4_
                            have HB := n5_
                            clear n0_ n1_ n2_ n3_ n4_ n5_
                            (try clear hb)
                            (try clear hb2)
                            (try clear hk)
                            (try clear hi)
                            (try clear ho0)
                            obtain ⟨Ao55, co55, eo55⟩ := Kd.V_slice HO454.out
                            (first | subst eo55 | (injection eo55 with f1_ f2_ f3_; have f4_ := f1_.symm; have f5_ := f3_.symm; clear f1_ f2_ f3_; subst f4_; subst f5_))
                            refine hK.out _ _ ⟨(bCl BK425.out 0).trans rfl, (bCl BK425.out 1).trans rfl, (bCl BK425.out 2).trans rfl, (bCl BK425.out 3).trans rfl, (bCl BK425.out 4).trans rfl, (bCl BK425.out 5).trans rfl⟩ (fun hHeld => ?_)
                            clear hK K
                            refine norm_ (a' := ?_) ?_ ?_
                            rotate_left
                            · show Act.put _ (some 96) _ = _
                              simp only [Act.put, List.setIfInBounds_toArray, List.set_cons_zero, List.set_cons_succ, i64_w, i32_w]
                              rfl
                            refine one_ (i := 5) (N := some 97) #[true, true, true, true, true, true, false, false, false, false] rfl rfl (one_of HT_.out (by kernel_rfl)) (by decide) (fun K hK => ?_)
                            refine goes_ Try.func8 (by kernel_rfl) rfl #[.agg #[.int .i64 t417, .int .i64 t418, .int .i64 t419, .int .i64 t420, .string t421, .slice Ao24 t422.length co24], .agg #[.int .i64 t447, .int .i64 t448, .int .i64 t449, .int .i64 t450, .string t451, .slice Ao55 t452.length co55]] (by rfl) rfl rfl (by (try simp only [List.map_toArray, List.map_cons, List.map_nil]); first | done | rfl | (simp only [List.length_drop, List.length_take]; rfl)) ?_
                            with_reducible refine (r06Same.calls kj32 t417 t418 t419 t420 t421 _ _ t422 t447 t448 t449 t450 t451 _ _ t452 true _ ?side1 ?side2 ?side3 ?side4 ⟨rfl⟩ A48.out).mono ?_
                            (case side1 => repeat (first | exact (Kd.V_reads' HO_426005.out).2.2 | (with_reducible refine Kd.C_alloc ?_ _) | (with_reducible refine Kd.C_drewN ?_ _) | (with_reducible refine Kd.C_drew ?_)))
                            (case side2 => exact (Kd.V_reads' HO_426005.out).2.1)
                            (case side3 => repeat (first | exact (Kd.V_reads' HO454.out).2.2 | (with_reducible refine Kd.C_alloc ?_ _) | (with_reducible refine Kd.C_drewN ?_ _) | (with_reducible refine Kd.C_drew ?_)))
                            (case side4 => exact (Kd.V_reads' HO454.out).2.1)
                            rintro e w56 ⟨rfl, hb⟩
                            refine ⟨_, rfl, ?_⟩
                            have n0_ := Asd.mk (Kd.R_below (by (with_reducible repeat (first | apply Kd.R_alloc | apply Kd.R_drewN | apply Kd.R_drew)); exact HO_12.out) hb)
                            have n1_ := Asd.mk (Kd.V_below (by (with_reducible repeat (first | apply Kd.V_alloc | apply Kd.V_drewN | apply Kd.V_drew)); exact HO_426005.out) hb)
                            have n2_ := Asd.mk (Kd.V_below (by (with_reducible repeat (first | apply Kd.V_alloc | apply Kd.V_drewN | apply Kd.V_drew)); exact HO446.out) hb)
                            have n3_ := Asd.mk (Kd.V_below (by (with_reducible repeat (first | apply Kd.V_alloc | apply Kd.V_drewN | apply Kd.V_drew)); exact HO454.out) hb)
                            have n4_ := Asd.mk (blk_below (g := gb425) (o := .cells #[.int .i64 t417, .int .i64 t418, .int .i64 t419, .int .i64 t420, .string t421, .slice Ao24 t422.length co24] 24 (0, 0)) (by (with_reducible repeat (first | refine bDN ?_ _ | refine bDr ?_ | refine bAl ?_ _)); exact BK425.out) hb)
                            have n5_ := Asd.mk (wSp (by repeat (first | (with_reducible first | exact HB.out | apply wAl | apply pDN | apply wDr | refine wSt ?_ GE425.out) | exact HB.out)) hb)
                            clear HO_12
                            clear HO_426005
                            clear HO446
                            clear HO454
                            clear BK425
                            clear HB
                            have HO_12 := n0_
                            have HO_426005 := n1_
                            have HO446 := n2_
                            have HO454 := n3_
                            have BK425 := n4_
                            have HB := n5_
                            clear n0_ n1_ n2_ n3_ n4_ n5_
                            (try clear hb)
                            (try clear hb2)
                            (try clear hk)
                            (try clear hi)
                            refine hK.out _ _ ⟨(bCl BK425.out 0).trans rfl, (bCl BK425.out 1).trans rfl, (bCl BK425.out 2).trans rfl, (bCl BK425.out 3).trans rfl, (bCl BK425.out 4).trans rfl, (bCl BK425.out 5).trans rfl⟩ (fun hHeld => ?_)
                            clear hK K
                            refine norm_ (a' := ?_) ?_ ?_
                            rotate_left
                            · show Act.put _ (some 97) _ = _
                              simp only [Act.put, List.setIfInBounds_toArray, List.set_cons_zero, List.set_cons_succ, i64_w, i32_w]
                              rfl
                            refine pure_ (i := 6) (N := some 98) (v := ?_) (a' := ?_) #[true, true, true, true, true, true, true, false, false, false] rfl rfl (any_of HT_.out (by kernel_rfl)) (fun _ _ _ h => h) (Or.inl ⟨by rfl, ?_⟩) ?_ ?_
                            rotate_left
                            · intro w'
                              go_simp
                              with_reducible rfl
                            rotate_left
                            · simp only [Act.put, List.setIfInBounds_toArray, List.set_cons_zero, List.set_cons_succ, i64_w, i32_w]
                              rfl
                            refine one_ (i := 7) (N := some 99) #[true, true, true, true, true, true, true, true, false, false] rfl rfl (one_of HT_.out (by kernel_rfl)) (by decide) (fun K hK => ?_)
                            refine goes_ Try.func6 (by kernel_rfl) rfl #[] (by rfl) rfl rfl (by (try simp only [List.map_toArray, List.map_cons, List.map_nil]); first | done | rfl | (simp only [List.length_drop, List.length_take]; rfl)) ?_
                            with_reducible refine (l20lives.calls  t456 _ A50.out).mono ?_
                            rintro e w57 ⟨rfl, hb⟩
                            refine ⟨_, rfl, ?_⟩
                            have n0_ := Asd.mk (Kd.R_below (by (with_reducible repeat (first | apply Kd.R_alloc | apply Kd.R_drewN | apply Kd.R_drew)); exact HO_12.out) hb)
                            have n1_ := Asd.mk (Kd.V_below (by (with_reducible repeat (first | apply Kd.V_alloc | apply Kd.V_drewN | apply Kd.V_drew)); exact HO_426005.out) hb)
                            have n2_ := Asd.mk (Kd.V_below (by (with_reducible repeat (first | apply Kd.V_alloc | apply Kd.V_drewN | apply Kd.V_drew)); exact HO446.out) hb)
                            have n3_ := Asd.mk (Kd.V_below (by (with_reducible repeat (first | apply Kd.V_alloc | apply Kd.V_drewN | apply Kd.V_drew)); exact HO454.out) hb)
                            have n4_ := Asd.mk (blk_below (g := gb425) (o := .cells #[.int .i64 t417, .int .i64 t418, .int .i64 t419, .int .i64 t420, .string t421, .slice Ao24 t422.length co24] 24 (0, 0)) (by (with_reducible repeat (first | refine bDN ?_ _ | refine bDr ?_ | refine bAl ?_ _)); exact BK425.out) hb)
                            have n5_ := Asd.mk (wSp (by repeat (first | (with_reducible first | exact HB.out | apply wAl | apply pDN | apply wDr | refine wSt ?_ GE425.out) | exact HB.out)) hb)
                            clear HO_12
                            clear HO_426005
                            clear HO446
                            clear HO454
                            clear BK425
                            clear HB
                            have HO_12 := n0_
                            have HO_426005 := n1_
                            have HO446 := n2_
                            have HO454 := n3_
                            have BK425 := n4_
                            have HB := n5_
                            clear n0_ n1_ n2_ n3_ n4_ n5_
                            (try clear hb)
                            (try clear hb2)
                            (try clear hk)
                            (try clear hi)
                            refine hK.out _ _ ⟨(bCl BK425.out 0).trans rfl, (bCl BK425.out 1).trans rfl, (bCl BK425.out 2).trans rfl, (bCl BK425.out 3).trans rfl, (bCl BK425.out 4).trans rfl, (bCl BK425.out 5).trans rfl⟩ (fun hHeld => ?_)
                            clear hK K
                            refine norm_ (a' := ?_) ?_ ?_
                            rotate_left
                            · show Act.put _ (some 99) _ = _
                              simp only [Act.put, List.setIfInBounds_toArray, List.set_cons_zero, List.set_cons_succ, i64_w, i32_w]
                              rfl
                            refine pure_ (i := 8) (N := some 100) (v := ?_) (a' := ?_) #[true, true, true, true, true, true, true, true, true, false] rfl rfl (any_of HT_.out (by kernel_rfl)) (fun _ _ _ h => h) (Or.inl ⟨by rfl, ?_⟩) ?_ ?_
                            rotate_left
                            · intro w'
                              go_simp
                              with_reducible rfl
                            rotate_left
                            · simp only [Act.put, List.setIfInBounds_toArray, List.set_cons_zero, List.set_cons_succ, i64_w, i32_w]
                              rfl
                            refine pure_ (i := 9) (N := some 8) (v := ?_) (a' := ?_) #[true, true, true, true, true, true, true, true, true, true] rfl rfl (any_of HT_.out (by kernel_rfl)) (fun _ _ _ h => h) (Or.inl ⟨by rfl, ?_⟩) ?_ ?_
                            rotate_left
                            · intro w'
                              go_simp
                              with_reducible rfl
                            rotate_left
                            · simp only [Act.put, List.setIfInBounds_toArray, List.set_cons_zero, List.set_cons_succ, i64_w, i32_w]
                              rfl
                            refine done_ (done_of HT_.out (by kernel_rfl)) ?_
                            try go_wp2
                            go_ret
                            exact ⟨by first | rfl | (simp [errW_none, errW_some] <;> rfl) | (simp [*, errW_none, errW_some] <;> rfl), by repeat (first | (with_reducible first | exact HB.out | apply wAl | apply pDN | apply wDr | refine wSt ?_ GE425.out) | exact HB.out)⟩
                          · rw [if_neg c49] at H
                            exact absurd (Option.some.inj H) (by rw [hrt.out]; simp)
def l20SimpValues.Pure : Prop := ∀ (a0 : Int) (a1 : Int) (a2 : Int) (a3 : Bool), (Lit.int .i64 a0).wf = true → (Lit.int .i16 a1).wf = true → (Lit.int .i16 a2).wf = true → ∃ k, l20SimpValues.f k a0 a1 a2 a3 = some true
theorem l20SimpValues.walk (P : l20SimpValues.Pure) (a0 : Int) (a1 : Int) (a2 : Int) (a3 : Bool) (w : World) (w0 : (Lit.int .i64 a0).wf = true) (w1 : (Lit.int .i16 a1).wf = true) (w2 : (Lit.int .i16 a2).wf = true) :
    Calls Try.prog 4 #[.int .i64 a0, .int .i16 a1, .int .i16 a2, .bool a3] w fun e w' => e = .returned (.bool true) ∧ Below w.heap.size w w' := by
  obtain ⟨k, h⟩ := P a0 a1 a2 a3 w0 w1 w2
  refine (l20SimpValues.calls k a0 a1 a2 a3 true w ⟨rfl⟩ h).mono ?_
  rintro e w' ⟨rfl, hd⟩
  exact ⟨rfl, hd⟩
end Go.Proofs.Ytgbpdfkobelbcaa.PSimpFolds
end
section
open Go Go.Ref Go.Proofs Go.RowKit Go.Proofs.Ytgbpdfkobelbcaa.PSimpFolds Go.Proofs.YtgbpdfkobelbcaaW.PrintWords
set_option linter.unusedSimpArgs false
namespace Go.Ref
def cX (t x : Int) : S24 := ⟨1, 0, t, x, ⟨#[]⟩, []⟩
def opX (o : Int) (l : List S24) : S24 := ⟨3, o, 0, 0, ⟨#[]⟩, l⟩
theorem once_c (r : S24) (h0 : r.f0 = 1) (h5 : r.f5 = []) : onceX r = none := by
  unfold onceX constS choiceX oneX whenX biX
  simp [h0, h5, ofPair]
theorem fold_c (t x : Int) : foldX (cX t x) = cX t x := by
  rw [foldX_eq]
  exact Shr.rest (once_c _ rfl rfl) _
theorem fold_op (o : Int) (l : List S24) (hl : l.map foldX = l) (hc : allC l = true) (hok : constOk o l) : foldX (opX o l) = constR o l := by
  rw [foldX_eq]
  have he : ({ opX o l with f5 := (opX o l).f5.map foldX } : S24) = opX o l := by
    show (⟨3, o, 0, 0, ⟨#[]⟩, l.map foldX⟩ : S24) = _
    rw [hl]; rfl
  rw [he]
  have ho : onceX (opX o l) = some (constR o l) := by
    unfold onceX
    have : constS (opX o l) = some (constR o l) := if_pos ⟨rfl, hc, hok⟩
    rw [this]
  obtain ⟨k, hk⟩ : ∃ k, szE (opX o l) = k + 1 := ⟨szE (opX o l) - 1, by have := szE_pos (opX o l); omega⟩
  rw [hk]
  show (match onceX (opX o l) with | none => opX o l | some y => foldL onceX k y) = _
  rw [ho]
  exact Shr.rest (once_c _ rfl rfl) _
theorem stub_some (k : Nat) (x : S24) (hx : szE x ≤ 1000000) : simp_Fold.f k x.f0 x.f1 x.f2 x.f3 x.f4 x.f5 = some ((foldX x).f0, (foldX x).f1, (foldX x).f2, (foldX x).f3, (foldX x).f4, (foldX x).f5) := by
  obtain ⟨b0, b1, b2, b3, b4, b5⟩ := x
  unfold simp_Fold.f
  exact if_pos hx
theorem j4_true (k : Nat) (o : Int) (l : List S24) (hl : l.map foldX = l) (hc : allC l = true) (hs : szE (opX o l) ≤ 3) (b : Bool) (hb : b = true → constOk o l) :
    l20SimpValues.j4 (k + 40) o l (resV o (l.map S24.f2)).1 (appV o (l.map S24.f3)).1 b (foldX (opX o l)).f0 (foldX (opX o l)).f1 (foldX (opX o l)).f2 (foldX (opX o l)).f3 (foldX (opX o l)).f4 (foldX (opX o l)).f5 = some true := by
  cases b with
  | true =>
    rw [fold_op o l hl hc (hb rfl)]
    simp [l20SimpValues.j4, r20Is.f, constR, l20lives.f]
  | false =>
    have hf := foldX_le (opX o l)
    have h9 : r20Fold.f (k + 39) 3 o 0 0 ⟨#[]⟩ l = some ((foldX (opX o l)).f0, (foldX (opX o l)).f1, (foldX (opX o l)).f2, (foldX (opX o l)).f3, (foldX (opX o l)).f4, (foldX (opX o l)).f5) := stub_some (k + 39) (opX o l) (by omega)
    have hsame := same_all 3 (foldX (opX o l)) (k + 39) (by omega) (by omega) (by omega)
    simp only [l20SimpValues.j4, l20op.f, Bool.false_eq_true, if_false, Option.bind_some, h9, hsame, if_true, l20lives.f]
theorem l0_step (k : Nat) (o t : Int) (l : List S24) (T V : List Int) (i : Nat) (hi : i < l.length) (hT : T.length ≤ 10) (hV : V.length ≤ 10) (h10 : i ≤ 10) (e0 e1 e2 e3 : Int) (e4 : ByteArray) (e5 : List S24) :
    l20SimpValues.l0 (k + 1) o t l T V (i : Int) e0 e1 e2 e3 e4 e5 = l20SimpValues.l0 k o t l (T ++ [t]) (V ++ [(rd_T24 l (i : Int)).f3]) ((i + 1 : Nat) : Int) e0 e1 e2 e3 e4 e5 := by
  have h1 : (i : Int) < (l.length : Int) := by omega
  have w : wrap64 ((i : Int) + 1) = ((i + 1 : Nat) : Int) := by unfold wrap64; omega
  simp only [l20SimpValues.l0, h1, if_true, show (0 : Int) ≤ (i : Int) by omega, show T.length < 17592186044416 by omega, show V.length < 17592186044416 by omega, w]
theorem l0_end (k : Nat) (o t : Int) (l : List S24) (T V : List Int) (e0 e1 e2 e3 : Int) (e4 : ByteArray) (e5 : List S24) :
    l20SimpValues.l0 (k + 20 + 1) o t l T V (l.length : Int) e0 e1 e2 e3 e4 e5 = (if (resV o T).2 = 0 then l20SimpValues.j4 (k + 20) o l (resV o T).1 (appV o V).1 ((appV o V).2 == 0) e0 e1 e2 e3 e4 e5 else l20SimpValues.j4 (k + 20) o l (resV o T).1 (appV o V).1 false e0 e1 e2 e3 e4 e5) := by
  simp only [l20SimpValues.l0, Int.lt_irrefl, if_false, (resV_eq k o T).1, (appV_eq k o V).1, Option.bind_some]
theorem end_true (o : Int) (l : List S24) (hl : l.map foldX = l) (hc : allC l = true) (hs : szE (opX o l) ≤ 3) (t : Int) (k : Nat) :
    l20SimpValues.l0 (k + 41) o t l (l.map S24.f2) (l.map S24.f3) (l.length : Int) (foldX (opX o l)).f0 (foldX (opX o l)).f1 (foldX (opX o l)).f2 (foldX (opX o l)).f3 (foldX (opX o l)).f4 (foldX (opX o l)).f5 = some true := by
  rw [show k + 41 = (k + 20) + 20 + 1 from rfl, l0_end]
  split
  · rename_i h
    exact j4_true k o l hl hc hs _ (fun hb => ⟨h, by simpa using hb⟩)
  · exact j4_true k o l hl hc hs false (by simp)
theorem vals_1 (o t x : Int) : l20SimpValues.j2 44 o t [cX t x] = some true := by
  have hl : [cX t x].map foldX = [cX t x] := by simp [fold_c]
  have hs : szE (opX o [cX t x]) ≤ 3 := by rw [szE_eq]; show szL [cX t x] + 1 ≤ 3; rw [szL_cons, szL_nil, szE_eq]; show szL [] + 1 + 0 + 1 ≤ 3; rw [szL_nil]; omega
  have h7 : simp_Fold.f 43 3 o 0 0 ⟨#[]⟩ [cX t x] = some ((foldX (opX o [cX t x])).f0, (foldX (opX o [cX t x])).f1, (foldX (opX o [cX t x])).f2, (foldX (opX o [cX t x])).f3, (foldX (opX o [cX t x])).f4, (foldX (opX o [cX t x])).f5) := stub_some 43 (opX o [cX t x]) (by omega)
  simp only [l20SimpValues.j2, l20op.f, Option.bind_some, h7]
  have e := l0_step 42 o t [cX t x] [] [] 0 (by simp) (by simp) (by simp) (by simp) (foldX (opX o [cX t x])).f0 (foldX (opX o [cX t x])).f1 (foldX (opX o [cX t x])).f2 (foldX (opX o [cX t x])).f3 (foldX (opX o [cX t x])).f4 (foldX (opX o [cX t x])).f5
  exact e.trans (end_true o [cX t x] hl rfl hs t 1)
theorem vals_2 (o t x y : Int) : l20SimpValues.j2 44 o t [cX t x, cX t y] = some true := by
  have hl : [cX t x, cX t y].map foldX = [cX t x, cX t y] := by simp [fold_c]
  have hs : szE (opX o [cX t x, cX t y]) ≤ 3 := by
    rw [szE_eq]; show szL [cX t x, cX t y] + 1 ≤ 3
    rw [szL_cons, szL_cons, szL_nil, szE_eq, szE_eq]
    show szL [] + 1 + (szL [] + 1 + 0) + 1 ≤ 3
    rw [szL_nil]; omega
  have h7 : simp_Fold.f 43 3 o 0 0 ⟨#[]⟩ [cX t x, cX t y] = some ((foldX (opX o [cX t x, cX t y])).f0, (foldX (opX o [cX t x, cX t y])).f1, (foldX (opX o [cX t x, cX t y])).f2, (foldX (opX o [cX t x, cX t y])).f3, (foldX (opX o [cX t x, cX t y])).f4, (foldX (opX o [cX t x, cX t y])).f5) := stub_some 43 (opX o [cX t x, cX t y]) (by omega)
  simp only [l20SimpValues.j2, l20op.f, Option.bind_some, h7]
  generalize hE : foldX (opX o [cX t x, cX t y]) = E
  have e1 := l0_step 42 o t [cX t x, cX t y] [] [] 0 (by simp) (by simp) (by simp) (by simp) E.f0 E.f1 E.f2 E.f3 E.f4 E.f5
  have e2 := l0_step 41 o t [cX t x, cX t y] [t] [x] 1 (by simp) (by simp) (by simp) (by simp) E.f0 E.f1 E.f2 E.f3 E.f4 E.f5
  have e3 := end_true o [cX t x, cX t y] hl rfl hs t 0
  rw [hE] at e3
  exact (e1.trans e2).trans e3
theorem j0_true (o t x y : Int) : l20SimpValues.j0 46 o t x y = some true := by
  have h2 := vals_2 o t x y
  have h1 := vals_1 o t x
  have htake : ([cX t x, cX t y] : List S24).take (1 : Int).toNat = [cX t x] := rfl
  have hlen : (1 : Int) ≤ (([cX t x, cX t y] : List S24).length : Int) := by simp
  by_cases ho : o = 1
  · subst ho
    show l20SimpValues.j1 45 1 t [cX t x, cX t y] true = some true
    simp only [l20SimpValues.j1, if_true, hlen, htake]
    exact h1
  · by_cases ho2 : o = 2
    · subst ho2
      show l20SimpValues.j1 45 2 t [cX t x, cX t y] true = some true
      simp only [l20SimpValues.j1, if_true, hlen, htake]
      exact h1
    · have hb : (o == 2) = false := beq_eq_false_iff_ne.mpr ho2
      simp only [l20SimpValues.j0, Option.bind_some, ho, if_false, hb, l20SimpValues.j1, Bool.false_eq_true]
      exact h2
theorem values_pure : l20SimpValues.Pure := by
  intro a0 a1 a2 a3 _ _ _
  refine ⟨46, ?_⟩
  unfold l20SimpValues.f
  split
  · exact j0_true _ _ _ _
  · exact j0_true _ _ _ _
end Go.Ref
end
section
namespace Go.Proofs.Ytgbpdfkobelbcaa.simpValues
open Go.ChangeShapes Go.WideShapes Go.ChangeAt Go.RowKit
open Go.ChangeMaps (open_string shut_string)
set_option linter.unusedVariables false
theorem own : ownKnob Try.prog.godebug = none := by kernel_rfl
set_option maxRecDepth 100000 in
theorem lifted (os : Os) (started : os.Started) (H : Type) (enc : TypeId × Value → H) :
    ReturnsInHanded {} Try.checked os 4 .any (Rows.simpValuesSpec.pre6 enc Try.prog Try.f4 Rows.simpValuesRow.domain false) (Rows.simpValuesSpec.post enc Try.prog Try.f4 false true false false) := by
  refine returnsInHanded_of_change_sized (C := Try.checked) own started (by kernel_rfl) Try.func4
    (ChangeSpec.witness6 (enc := enc) (C := Try.checked) false ⟨#[], #[.int .i64 0, .int .i16 0, .int .i16 0, .bool false], []⟩ 8 (by kernel_rfl) (by kernel_rfl) (by kernel_rfl) (by kernel_rfl)) ?_
  intro W base args ds gs before hval0 hW hcnd hsz0 _
  have hsz : (DataW.weightsEach Try.prog (Try.f4.params.toList ++ Rows.simpValuesSpec.plain.varTypes Try.prog) (ds ++ gs)).all (· ≤ reachBytes) = true := hsz0
  have hval : ∀ (j : Nat) t v, Try.f4.params[j]? = some t → args[j]? = some v → Value.okWide Try.prog W .any base t v := hval0
  have hW' := hW
  obtain ⟨p, q, hA0, hV, rfl, hfz, hnd⟩ := hW
  have hA : DataW.TrodAll enc Try.prog W 0 (fun _ => true) true Try.f4.params.toList args.toList ds p := hA0
  rw [Try.params4] at hA hval hsz
  obtain ⟨v0, vs0, d0, ds0, p0, q0, hargs, rfl, rfl, h0, r0⟩ := trodAll_cons hA
  obtain ⟨v1, vs1, d1, ds1, p1, q1, rfl, rfl, rfl, h1, r1⟩ := trodAll_cons r0
  obtain ⟨v2, vs2, d2, ds2, p2, q2, rfl, rfl, rfl, h2, r2⟩ := trodAll_cons r1
  obtain ⟨v3, vs3, d3, ds3, p3, q3, rfl, rfl, rfl, h3, r3⟩ := trodAll_cons r2
  obtain ⟨rfl, rfl, rfl⟩ := trodAll_nil r3
  obtain rfl : args = #[v0, v1, v2, v3] := by cases args; simp_all
  obtain ⟨rfl, rfl⟩ := trodVars_none hV
  obtain ⟨a0, rfl, rfl, rfl, w0⟩ := open_int Try.underlying3 (hval 0 3 v0 rfl rfl) h0
  obtain ⟨a1, rfl, rfl, rfl, w1⟩ := open_int Try.underlying31 (hval 1 31 v1 rfl rfl) h1
  obtain ⟨a2, rfl, rfl, rfl, w2⟩ := open_int Try.underlying31 (hval 2 31 v2 rfl rfl) h2
  obtain ⟨a3, rfl, rfl, rfl⟩ := open_bool Try.underlying4 (hval 3 4 v3 rfl rfl) h3
  clear hA0 hval0 hsz0 hsz
  refine (PSimpFolds.l20SimpValues.walk Go.Ref.values_pure a0 a1 a2 a3 W w0 w1 w2).mono fun e W' ⟨he, bel⟩ => ?_
  subst he
  exact ⟨_, rfl, _, _, _, [], _, [], hW', trodAll_mk1 (shut_bool Try.underlying4 _), (trodAll_cons_mk (shut_int Try.underlying3 w0) (trodAll_cons_mk (shut_int Try.underlying31 w1) (trodAll_cons_mk (shut_int Try.underlying31 w2) (trodAll_cons_mk (shut_bool Try.underlying4 _) trodAll_mk0)))), rfl, bel.frame _, fun h => by cases h⟩
theorem over : Rows.simpValuesRow.holds Try.pinned (OpenSpec.ofChange Rows.simpValuesSpec) :=
  OpenClaim.holds_of_wide 4 Try.f4 rfl rfl rfl rfl rfl rfl rfl ⟨rfl, rfl, rfl, rfl, rfl⟩ rfl rfl rfl rfl rfl (by kernel_rfl) Try.func4 (by kernel_rfl)
    (of_decide_eq_true (by kernel_rfl)) (by unfold Func.isWrapper; first | (rw [if_pos (by decide +kernel)]; kernel_rfl) | (rw [if_neg (by decide +kernel)]; exact ⟨rfl, rfl⟩))
    (fun os started H enc _ => lifted os started H enc)
theorem proved : Rows.SimpValuesSaid := over
end Go.Proofs.Ytgbpdfkobelbcaa.simpValues
namespace Go.Proofs.Ytgbpdfkobelbcaa
theorem simpValues_holds : Rows.SimpValuesSaid := simpValues.proved
end Go.Proofs.Ytgbpdfkobelbcaa
end
