/- PROVED: the law SimpFolds: folding any expression gives the expression of the reference, is not larger, and is done at once; no condition beside those of the given statement. -/
import Derived.Test.YtgbpdfkobelbcaaSxK
import Derived.Below
import Derived.Deep.Draws
import Derived.Deep.AppendLies
import Derived.Maps.AppendAt
import Derived.OwnWalk
import Derived.Laws.BytesArg
import Derived.Laws.MakeOwn
import Derived.Laws.OwnMore
import Derived.Deep.OwnRows
import Derived.Tactics
import Derived.Lib.ConvBytes
import Derived.Laws.Slices
import Derived.WalkKit
import Derived.KernelRfl
import Derived.RowKit3
import Derived.Deep.LoopGhost
import Derived.Deep.QuietTactic
import Derived.BigQuiet
import Derived.WideLaws
import Derived.Deep.DeepCutAuto
import Derived.Deep.CutBlock
import Derived.Deep.RegionHeld3
import Derived.Laws.Rows
import Derived.Lib.AppendStr
import Derived.ArgAppend
import Derived.Laws.IdiomCopy
import Derived.RowKit
import Derived.Test.YtgbpdfkobelbcaaRows
import Derived.ProofKit
import Derived.ChangeSame
import Derived.JoinedOf
import Derived.JoinedAt
import Derived.Carry
section
set_option linter.unusedVariables false
set_option linter.unusedSimpArgs false
namespace Go.Proofs.YtgbpdfkobelbcaaW.PrintWords
open Go.RowKit
section
variable {P : Program} {ops : Array Oper} {rest : List Oper} {o : Oper} {a : Act} {Q : Exit → Act → World → Prop}
end
section
variable {P : Program}
end
section
variable {P : Program} {ops : Array Oper} {rest : List Oper} {o : Oper} {a : Act} {Q : Exit → Act → World → Prop}
end
section
variable {P : Program} {ops : Array Oper} {rest : List Oper} {o : Oper} {a : Act} {Q : Exit → Act → World → Prop}
end
section
variable {P : Program} {ops : Array Oper} {o : Oper} {a : Act} {Q : Exit → Act → World → Prop} {K : Act → World → Prop}
end
section
variable {α : Type} {enc : α → Value} {d : α}
end
section
variable {α : Type} {P : Program} {ops : Array Oper} {rest : List Oper} {o : Oper} {a : Act} {Q : Exit → Act → World → Prop}
end
section
variable {P : Program}
end
section
variable {α : Type} {R R' : α → List Value → Prop} {e : TypeId} {size : Nat} {w w1 : World} {base : Nat} {v : Value} {ps : List α}
end
section
variable {P : Program} {ops : Array Oper} {rest : List Oper} {o : Oper} {a : Act} {Q : Exit → Act → World → Prop} {α : Type} {R : α → List Value → Prop}
end
section
variable {P : Program} {ops : Array Oper} {o : Oper} {a : Act} {Q : Exit → Act → World → Prop} {K : Act → World → Prop} {α : Type} {R : α → List Value → Prop}
end
section
variable {α : Type} {P : Program}
end
section
variable {P : Program} {ops : Array Oper} {rest : List Oper} {o : Oper} {a : Act} {Q : Exit → Act → World → Prop}
end
namespace Kd
section
variable {α : Type} {d : Kd α} {e : Nat} {w w1 : World} {base : Nat} {ok ok' : Nat → Prop} {v : Value} {xs : List α}
end
section
variable {P : Program} {ops : Array Oper} {rest : List Oper} {o : Oper} {a : Act} {Q : Exit → Act → World → Prop} {α : Type}
end
section
variable {P : Program} {ops : Array Oper} {o : Oper} {a : Act} {Q : Exit → Act → World → Prop} {Kc : Act → World → Prop} {α : Type}
end
end Kd
namespace Kd
section
variable {α : Type} {F : Kd α → Kd α} {sz : Nat} {E : List Nat} {hs : ∀ n, (upto F sz E n).sz = sz} {hE : ∀ n q, q ∈ (upto F sz E n).E → q ∈ E}
end
end Kd
namespace Kd
end Kd
namespace Kd
section
variable {α β : Type} {d : Kd α} {d' : Kd β} {e e' : Nat} {w w1 W : World} {base b b' : Nat} {ok ok' okv oku : Nat → Prop} {v u : Value} {xs : List α} {ys : List β}
end
section
variable {w W : World} {A : Option Addr} {n : Nat}
variable {α : Type} {enc : α → Value} {h1 : ∀ x, (enc x).oneCell' = true} {e base g cap : Nat} {ok : Nat → Prop} {xs : List α}
end
section
variable {P : Program} {ops : Array Oper} {rest : List Oper} {o : Oper} {a : Act} {Q : Exit → Act → World → Prop}
variable {α : Type}
end
end Kd
section
variable {P : Program}
end
section
variable {w w1 : World} {base n size : Nat} {e : TypeId} {v : Value} {xs : List Value}
end
section
variable {P : Program}
end
namespace Kd
section
variable {α : Type} {d : Kd α} {e : Nat} {w w1 W : World} {base : Nat} {ok ok' : Nat → Prop} {v : Value} {xs : List α}
end
section
variable {P : Program} {ops : Array Oper} {rest : List Oper} {o : Oper} {a : Act} {Q' : Exit → Act → World → Prop} {Kc : Act → World → Prop} {α : Type}
end
end Kd
namespace Kd
section
variable {α : Type} {d : Kd α} {e e' : Nat} {w w1 W : World} {base : Nat} {ok : Nat → Prop} {u v : Value} {xs : List α}
end
end Kd
namespace Kd
section
variable {α : Type} {d : Kd α} {e base g n cap : Nat} {ok okp : Nat → Prop} {W : World} {xs : List α}
end
end Kd
namespace Kd
section
variable {α : Type} {F : Kd α → Kd α} {sz : Nat} {E : List Nat} {hs : ∀ n, (upto F sz E n).sz = sz} {hE : ∀ n q, q ∈ (upto F sz E n).E → q ∈ E}
end
end Kd
namespace Kd
section
variable {P : Program} {ops : Array Oper} {rest : List Oper} {o : Oper} {a : Act} {Q : Exit → Act → World → Prop} {α : Type}
end
end Kd
namespace Kd
section
variable {P : Program} {ops : Array Oper} {rest : List Oper} {o : Oper} {a : Act} {Q : Exit → Act → World → Prop} {α : Type}
end
end Kd
theorem add_add (a : Addr) (i j : Nat) : (a.add i).add j = a.add (i + j) := by
  unfold Addr.add
  by_cases h1 : i = 0 <;> by_cases h2 : j = 0 <;> simp [h1, h2, Nat.add_assoc]
namespace Kd
section
variable {α : Type} {k : Kd α} {w : World} {A : Option Addr} {xs : List α} {m c : Nat}
end
end Kd
section
variable {P : Program}
end
namespace Kd
section
variable {α β : Type} {d : Kd α} {d' : Kd β} {e e' base base' n : Nat} {ok ok' : Nat → Prop} {w W w1 W1 : World} {v u : Value} {xs : List α} {ys : List β} {A : Option Addr} {c : Nat}
end
section
variable {α : Type} {enc : α → Value} {h1 : ∀ x, (enc x).oneCell' = true} {w W : World} {A : Option Addr} {n g : Nat} {xs : List α}
end
end Kd
namespace Kd
section
variable {α : Type} {d : Kd α} {e base g : Nat} {ok : Nat → Prop} {w w1 : World} {v : Value} {xs : List α} {o : Obj}
end
end Kd
section
variable {P : Program} {ops : Array Oper} {rest : List Oper} {o : Oper} {a : Act} {Q : Exit → Act → World → Prop}
end
namespace Kd
section
variable {α : Type} {enc : α → Value} {h1 : ∀ x, (enc x).oneCell' = true} {e base g n cap : Nat} {ok : Nat → Prop} {W : World} {xs : List α}
end
end Kd
section
variable {P : Program} {ops : Array Oper} {rest : List Oper} {o : Oper} {a : Act} {Q : Exit → Act → World → Prop}
end
namespace Kd
section
variable {α : Type} {enc : α → Value} {h1 : ∀ x, (enc x).oneCell' = true} {e base g n cap : Nat} {ok : Nat → Prop} {W : World} {xs : List α}
end
end Kd
section
variable {P : Program} {ops : Array Oper} {rest : List Oper} {o : Oper} {a : Act} {Q : Exit → Act → World → Prop} {W : World}
end
section
variable {P : Program} {ops : Array Oper} {o : Oper} {a : Act} {Q : Exit → Act → World → Prop} {Kc : Act → World → Prop}
namespace Kd
variable {α : Type}
end Kd
end
section
variable {P : Program} {tmps : Array Value} {w : World}
end
namespace Kd
section
variable {P : Program} {α : Type}
end
section
variable {P : Program} {ops : Array Oper} {rest : List Oper} {o : Oper} {a : Act} {Q : Exit → Act → World → Prop} {Kc : Act → World → Prop} {α : Type}
end
end Kd
end Go.Proofs.YtgbpdfkobelbcaaW.PrintWords
end
section
namespace Go.Proofs.YtgbpdfkobelbcaaW.PrintWords
open Go.RowKit
namespace Kd
structure Heap {α : Type} (d : Kd α) : Prop where
  K : ∀ {w w1 : World} {x : α} {cs : List Value}, (∀ k, k < w.heap.size → w1.heap[k]? = w.heap[k]?) → d.K w x cs → d.K w1 x cs
theorem cell_heap {w w1 : World} (hb : ∀ k, k < w.heap.size → w1.heap[k]? = w.heap[k]?) {a : Addr} {v : Value} (h : w.cell? a = some v) : w1.cell? a = some v := by
  have := hb a.block (World.block_lt_of_cell? w a h)
  simpa [World.cell?, this] using h
theorem Heap.C {α : Type} {d : Kd α} (hd : Heap d) {w w1 : World} {A : Option Addr} {n : Nat} {xs : List α} (hb : ∀ k, k < w.heap.size → w1.heap[k]? = w.heap[k]?) (h : d.C w A n xs) : d.C w1 A n xs :=
  ⟨h.1, h.2.1, fun hn => by
    obtain ⟨ad, e, hc⟩ := h.2.2 hn
    refine ⟨ad, e, fun j p hj => ?_⟩
    obtain ⟨c, hs, hr, hcell⟩ := hc j p hj
    exact ⟨c, hs, hd.K hb hr, fun i u hu => cell_heap hb (hcell i u hu)⟩⟩
theorem heap_int (k : IntKind) : Heap (Kd.int k) := ⟨fun _ h => h⟩
theorem heap_string : Heap Kd.string := ⟨fun _ h => h⟩
theorem heap_slice {α : Type} {d : Kd α} (e : Nat) (hd : Heap d) : Heap (slice e d) := ⟨by
  rintro w w1 x cs hb ⟨A, c, rfl, hl, hr⟩
  exact ⟨A, c, rfl, hl, hd.C hb hr⟩⟩
theorem heap_pair {α β : Type} {a : Kd α} {b : Kd β} (ha : Heap a) (hb' : Heap b) : Heap (pair a b) := ⟨by
  rintro w w1 x cs hb ⟨c0, c1, rfl, h0, h1⟩
  exact ⟨c0, c1, rfl, ha.K hb h0, hb'.K hb h1⟩⟩
theorem heap_iso {α β : Type} {d : Kd α} (f : β → α) (hd : Heap d) : Heap (iso d f) := ⟨fun hb h => hd.K hb h⟩
theorem heap_bot {α : Type} (sz : Nat) (E : List Nat) : Heap (bot sz E : Kd α) := ⟨fun _ h => h⟩
theorem heap_upto {α : Type} {F : Kd α → Kd α} {sz : Nat} {E : List Nat} (hF : ∀ d, Heap d → Heap (F d)) : ∀ n, Heap (upto F sz E n)
  | 0 => heap_bot sz E
  | n + 1 => hF _ (heap_upto hF n)
theorem heap_fix {α : Type} {F : Kd α → Kd α} {sz : Nat} {E : List Nat} {hs : ∀ n, (upto F sz E n).sz = sz} {hE : ∀ n q, q ∈ (upto F sz E n).E → q ∈ E} (hF : ∀ d, Heap d → Heap (F d)) : Heap (fix F sz E hs hE) := ⟨by
  rintro w w1 x cs hb ⟨n, h⟩
  exact ⟨n, (heap_upto hF n).K hb h⟩⟩
section
variable {α : Type} {d : Kd α} {e base g n c : Nat} {ok : Nat → Prop} {w w0 W : World} {A : Option Addr} {xs : List α}
end
end Kd
end Go.Proofs.YtgbpdfkobelbcaaW.PrintWords
end
section
namespace Go.Proofs.YtgbpdfkobelbcaaW.PrintWords
open Go.RowKit
namespace Foot
variable {P Q : World → Prop} {W W1 : World} {ok ok' : Nat → Prop}
end Foot
namespace Kd
section
variable {α β : Type} {d : Kd α} {e base n n' cc g N : Nat} {ok ok' okp S : Nat → Prop} {w w0 w1 W W1 : World} {A A' : Option Addr} {u v v1 : Value} {xs : List α} {xs' : List β} {d' : Kd β} {x : α} {c : List Value}
theorem C_F (hd : Heap d) (h : d.C w A n xs) : F d w (fun k => k < w.heap.size) A n xs := fun _ hW => hd.C (fun k hlt => hW k hlt hlt) h
end
end Kd
end Go.Proofs.YtgbpdfkobelbcaaW.PrintWords
end
section
namespace Go.Proofs.YtgbpdfkobelbcaaW.PrintMore
open Go.RowKit Go.Proofs.YtgbpdfkobelbcaaW.PrintWords
namespace Kd
open Go.Proofs.YtgbpdfkobelbcaaW.PrintWords.Kd
end Kd
namespace Kd
open Go.Proofs.YtgbpdfkobelbcaaW.PrintWords.Kd
section
variable {α : Type} {d : Kd α} {e base g N : Nat} {ok : Nat → Prop} {W w1 : World} {u v : Value} {xs : List α}
end
end Kd
end Go.Proofs.YtgbpdfkobelbcaaW.PrintMore
namespace Go.Proofs.YtgbpdfkobelbcaaW.PrintWords
open Go.RowKit
section
variable {P : Program} {ops : Array Oper} {rest : List Oper} {o : Oper} {a : Act} {Q : Exit → Act → World → Prop} {W : World}
end
def mn (a b : Int) : Int := if b < a then b else a
namespace Kd
section
variable {α : Type} {d : Kd α} {e base : Nat} {ok : Nat → Prop} {W w1 : World} {v : Value} {xs : List α}
end
section
variable {α : Type} {d : Kd α} {e base g n cap : Nat} {ok oki okp : Nat → Prop} {W : World} {xs : List α} {i : Int} {c : List Value}
end
section
variable {α : Type} {d : Kd α} {e base b b' g N : Nat} {ok ok1 : Nat → Prop} {W W2 w1 : World} {u v : Value} {xs ys : List α} {S : Nat → Prop}
end
end Kd
end Go.Proofs.YtgbpdfkobelbcaaW.PrintWords
namespace Go.Proofs.YtgbpdfkobelbcaaW.PrintWords
open Go.RowKit
namespace Kd
section
variable {α β : Type} {d : Kd α} {e base base' n m c g N' lo hi : Nat} {ok ok' S : Nat → Prop} {w W w1 : World} {A : Option Addr} {ad : Addr} {u v v1 : Value} {xs : List α}
end
end Kd
end Go.Proofs.YtgbpdfkobelbcaaW.PrintWords
end
section
namespace Go.Proofs.Ytgbpdfkobelbcaa.PSimpFolds
open Go.RowKit Go.Proofs.YtgbpdfkobelbcaaW.PrintWords Go.Proofs.YtgbpdfkobelbcaaW.PrintLast Go.Proofs.YtgbpdfkobelbcaaW.PrintMore
attribute [local go_sem] max2_int min2_int max_two min_two max_three min_three max_four min_four
set_option linter.unusedVariables false
set_option linter.unusedSimpArgs false
mutual
def r06Weigh.l0 : Nat → Int → Int → Int → Int → Int → Int → Int → ByteArray → List (S24) → Option (Int)
  | 0, _, _, _, _, _, _, _, _, _ => none
  | k + 1, x1, x5, x6, x102000, x102001, x102002, x102003, x102004, x102005 => if x6 < (x102005.length : Int) then (if x5 < x1 then (if 0 ≤ x6 then ((r06Weigh.f k ((rd_T24 x102005 x6).f0) ((rd_T24 x102005 x6).f1) ((rd_T24 x102005 x6).f2) ((rd_T24 x102005 x6).f3) ((rd_T24 x102005 x6).f4) ((rd_T24 x102005 x6).f5) (wrap64 (x1 - x5))).bind fun t103 => (r06Weigh.l0 k x1 (wrap64 (x5 + t103)) (wrap64 (x6 + 1)) x102000 x102001 x102002 x102003 x102004 x102005)) else (none)) else (some (mn x5 x1))) else (some (mn x5 x1))
def r06Weigh.f : Nat → Int → Int → Int → Int → ByteArray → List (S24) → Int → Option (Int)
  | 0, _, _, _, _, _, _, _ => none
  | k + 1, a0_0, a0_1, a0_2, a0_3, a0_4, l0_5, a1 => r06Weigh.l0 k a1 1 0 a0_0 a0_1 a0_2 a0_3 a0_4 l0_5
end
set_option maxHeartbeats 8000000 in
set_option maxRecDepth 100000 in
theorem r06Weigh.calls (k : Nat) : ∀ (a0_0 : Int) (a0_1 : Int) (a0_2 : Int) (a0_3 : Int) (a0_4 : ByteArray) (A0_5 : Option Addr) (c0_5 : Nat) (l0_5 : List (S24)) (a1 : Int) (r : Int) (w : World) (hr0_5 : Kd.C k24 w A0_5 l0_5.length l0_5) (hc0_5 : l0_5.length ≤ c0_5) (h : r06Weigh.f k a0_0 a0_1 a0_2 a0_3 a0_4 l0_5 a1 = some r),
    Calls Try.prog 5 #[.agg #[.int .i64 a0_0, .int .i64 a0_1, .int .i64 a0_2, .int .i64 a0_3, .string a0_4, .slice A0_5 l0_5.length c0_5], .int .i64 a1] w fun e w' => e = .returned (.int .i64 r) ∧ Below w.heap.size w w' := by
  induction k using Nat.strongRecOn with
  | _ k ih =>
  intro a0_0 a0_1 a0_2 a0_3 a0_4 A0_5 c0_5 l0_5 a1 r w hr0_5 hc0_5 h
  cases k with
  | zero => exact absurd h (by simp [r06Weigh.f])
  | succ k =>
  simp only [r06Weigh.f] at h
  have hu24 := Try.underlying24
  have HR0_5 := Asd.mk hr0_5
  have HC0_5 := Asd.mk hc0_5
  clear hr0_5 hc0_5
  have HB := Asd.mk (Below.refl w.heap.size w)
  have H : (r06Weigh.l0 k a1 1 0 a0_0 a0_1 a0_2 a0_3 a0_4 l0_5) = some r := h
  clear h
  have H' := Asd.mk H
  clear H
  go_enter Try.func5, Try.ntmps5
  go_wp2_with (first | ((with_reducible refine gate_dst (N := 2) rfl ?_); refine box_event ?hg (N := 2) ?hd (cs := #[.int .i64 a0_0, .int .i64 a0_1, .int .i64 a0_2, .int .i64 a0_3, .string a0_4, .slice A0_5 l0_5.length c0_5]) (t := 24) ?hr ?_; (case hd => rfl); (case hg => rfl); (case hr => first | (go_simp; done) | (go_simp; rfl)); intro gb101 hg w3 hbox hb; have n0_ := Asd.mk (wSp (by repeat (first | (with_reducible first | exact HB.out | apply wAl | apply pDN | apply wDr) | exact HB.out)) hb); have n1_ := Asd.mk (hbox); have n2_ := Asd.mk ((by rw [hg]; exact (wSz (by repeat (first | (with_reducible first | exact HB.out | apply wAl | apply pDN | apply wDr) | exact HB.out))) : w.heap.size ≤ gb101)); have n3_ := Asd.mk ((by rw [hg]; exact (wSz (by repeat (first | (with_reducible first | exact HB.out | apply wAl | apply pDN | apply wDr) | exact HB.out))) : w.heap.size ≤ gb101)); clear HB; have HB := n0_; have BK101 := n1_; have GW101 := n2_; have GE101 := n3_; clear n0_ n1_ n2_ n3_; clear hb hbox hg))
  go_loopg [5, 6] k (fun kq v5 v6 w' => ∃ (x5_1 : Int) (x6_1 : Int), v5 = .int .i64 x5_1 ∧ v6 = .int .i64 x6_1 ∧ Asd (r06Weigh.l0 kq a1 x5_1 x6_1 a0_0 a0_1 a0_2 a0_3 a0_4 l0_5 = some r) ∧ Asd (kq ≤ k) ∧ Asd (w'.heap[gb101]? = some (.cells #[.int .i64 a0_0, .int .i64 a0_1, .int .i64 a0_2, .int .i64 a0_3, .string a0_4, (.slice A0_5 l0_5.length c0_5)] 24 (0, 0))) ∧ Asd (Below w.heap.size w w'))
  case atStart => exact ⟨(1), (0), (by first | rfl | (simp; done) | (simp [*]; done)), (by first | rfl | (simp; done) | (simp [*]; done)), H', ⟨Nat.le_refl _⟩, ⟨by (with_reducible repeat (first | refine bDN ?_ _ | refine bDr ?_ | refine bAl ?_ _)); exact BK101.out⟩, ⟨by repeat (first | (with_reducible first | exact HB.out | apply wAl | apply pDN | apply wDr | refine wSt ?_ GE101.out) | exact HB.out)⟩⟩
  case round =>
    clear H'
    try clear p2
    obtain ⟨x5_1, x6_1, rfl, rfl, HA, HK1, BK101, HB⟩ := hrel
    cases gk with
    | zero => exact absurd HA.out (by simp [r06Weigh.l0])
    | succ k1 =>
      have H := HA.out
      clear HA
      simp only [r06Weigh.l0] at H
      by_cases c4 : x6_1 < (l0_5.length : Int)
      · rw [if_pos c4] at H
        have c4b0 : decide (x6_1 < (l0_5.length : Int)) = true := decide_eq_true c4
        clear c4
        by_cases c5 : x5_1 < a1
        · rw [if_pos c5] at H
          have c5b0 : decide (x5_1 < a1) = true := decide_eq_true c5
          clear c5
          by_cases c6 : 0 ≤ x6_1
          · rw [if_pos c6] at H
            have c6b0 : decide (0 ≤ x6_1) = true := decide_eq_true c6
            clear c6
            replace H := Option.bind_eq_some_iff.mp H
            obtain ⟨t103, A70, H⟩ := H
            replace H : (r06Weigh.l0 k1 a1 (wrap64 (x5_1 + t103)) (wrap64 (x6_1 + 1)) a0_0 a0_1 a0_2 a0_3 a0_4 l0_5) = some r := H
            have A7 := Asd.mk A70
            clear A70
            have H' := Asd.mk H
            clear H
            have hcz8_0 : wr.cell? ⟨gb101, 0, none⟩ = some (.int .i64 a0_0) := (bCl BK101.out 0).trans rfl
            have hcz8_1 : wr.cell? ⟨gb101, 1, none⟩ = some (.int .i64 a0_1) := (bCl BK101.out 1).trans rfl
            have hcz8_2 : wr.cell? ⟨gb101, 2, none⟩ = some (.int .i64 a0_2) := (bCl BK101.out 2).trans rfl
            have hcz8_3 : wr.cell? ⟨gb101, 3, none⟩ = some (.int .i64 a0_3) := (bCl BK101.out 3).trans rfl
            have hcz8_4 : wr.cell? ⟨gb101, 4, none⟩ = some (.string a0_4) := (bCl BK101.out 4).trans rfl
            have hcz8_5 : wr.cell? ⟨gb101, 5, none⟩ = some (.slice A0_5 l0_5.length c0_5) := (bCl BK101.out 5).trans rfl
            have hfz8_0 := bFz BK101.out 0
            have hfz8_1 := bFz BK101.out 1
            have hfz8_2 := bFz BK101.out 2
            have hfz8_3 := bFz BK101.out 3
            have hfz8_4 := bFz BK101.out 4
            have hfz8_5 := bFz BK101.out 5
            have p102 : 0 ≤ (x6_1 : Int) := of_decide_eq_true (by first | (with_reducible assumption) | assumption)
            have q102 : x6_1 < (l0_5.length : Int) := of_decide_eq_true (by first | (with_reducible assumption) | assumption)
            obtain ⟨ad102, A102_5, c102_5, e102, hx102_0, hx102_1, hx102_2, hx102_3, hx102_4, hx102_5, hl102_5, hi102_5⟩ := at_T24 HR0_5.out x6_1 p102 q102
            cases e102
            replace hx102_0 := (HB.out.cell (World.block_lt_of_cell? w _ hx102_0)).trans hx102_0
            replace hx102_1 := (HB.out.cell (World.block_lt_of_cell? w _ hx102_1)).trans hx102_1
            replace hx102_2 := (HB.out.cell (World.block_lt_of_cell? w _ hx102_2)).trans hx102_2
            replace hx102_3 := (HB.out.cell (World.block_lt_of_cell? w _ hx102_3)).trans hx102_3
            replace hx102_4 := (HB.out.cell (World.block_lt_of_cell? w _ hx102_4)).trans hx102_4
            replace hx102_5 := (HB.out.cell (World.block_lt_of_cell? w _ hx102_5)).trans hx102_5
            have HR102_5 := Asd.mk hi102_5
            have HC102_5 := Asd.mk hl102_5
            clear hi102_5 hl102_5
            replace p102 := eq_true p102
            replace q102 := eq_true q102
            go_wp2_with (first | ((with_reducible refine gate_callee (f := 5) rfl ?_); refine goesL_ (some 28) rfl rfl Try.func5 (by kernel_rfl) rfl #[.agg #[.int .i64 ((rd_T24 l0_5 x6_1).f0), .int .i64 ((rd_T24 l0_5 x6_1).f1), .int .i64 ((rd_T24 l0_5 x6_1).f2), .int .i64 ((rd_T24 l0_5 x6_1).f3), .string ((rd_T24 l0_5 x6_1).f4), .slice A102_5 ((rd_T24 l0_5 x6_1).f5).length c102_5], .int .i64 (wrap64 (a1 - x5_1))] rfl (by (try simp only [List.map_toArray, List.map_cons, List.map_nil]); first | done | rfl | (simp only [List.length_drop, List.length_take]; rfl)) ?_; (with_reducible refine (ih k1 (by have := HK1.out; omega) ((rd_T24 l0_5 x6_1).f0) ((rd_T24 l0_5 x6_1).f1) ((rd_T24 l0_5 x6_1).f2) ((rd_T24 l0_5 x6_1).f3) ((rd_T24 l0_5 x6_1).f4) _ _ ((rd_T24 l0_5 x6_1).f5) (wrap64 (a1 - x5_1)) t103 _ ?side1 ?side2 A7.out).mono ?_); (case side1 => repeat (first | exact (Kd.C_below HR102_5.out HB.out) | (with_reducible refine Kd.C_alloc ?_ _) | (with_reducible refine Kd.C_drewN ?_ _) | (with_reducible refine Kd.C_drew ?_))); (case side2 => exact HC102_5.out); rintro e w9 ⟨rfl, hb⟩; refine ⟨_, rfl, ?_⟩; have n0_ := Asd.mk (blk_below (g := gb101) (o := .cells #[.int .i64 a0_0, .int .i64 a0_1, .int .i64 a0_2, .int .i64 a0_3, .string a0_4, .slice (some ad102) l0_5.length c0_5] 24 (0, 0)) (by (with_reducible repeat (first | refine bDN ?_ _ | refine bDr ?_ | refine bAl ?_ _)); exact BK101.out) hb); have n1_ := Asd.mk (wSp (by repeat (first | (with_reducible first | exact HB.out | apply wAl | apply pDN | apply wDr | refine wSt ?_ GE101.out) | exact HB.out)) hb); clear BK101; clear HB; have BK101 := n0_; have HB := n1_; clear n0_ n1_; (try clear hb); (try clear hb2); (try clear hk); (try clear hi)))
            go_roundg k1
            case measure => have := HK1.out; omega
            case rel => exact ⟨(wrap64 (x5_1 + t103)), (wrap64 (x6_1 + 1)), (by first | rfl | (simp; done) | (simp [*]; done)), (by first | rfl | (simp; done) | (simp [*]; done)), H', ⟨by have := HK1.out; omega⟩, ⟨by (with_reducible repeat (first | refine bDN ?_ _ | refine bDr ?_ | refine bAl ?_ _)); exact BK101.out⟩, ⟨by repeat (first | (with_reducible first | exact HB.out | apply wAl | apply pDN | apply wDr | refine wSt ?_ GE101.out) | exact HB.out)⟩⟩
          · rw [if_neg c6] at H
            exact absurd H (by simp)
        · rw [if_neg c5] at H
          have c5b0 : decide (x5_1 < a1) = false := decide_eq_false c5
          clear c5
          obtain ⟨ji10, hji10⟩ : ∃ j_ : Int, (mn x5_1 a1) = j_ := ⟨_, rfl⟩
          replace H : (some ji10) = some r := by first | (rw [hji10] at H; exact H) | (simp only [hji10] at H ⊢; exact H)
          have hji10_ : (if a1 < x5_1 then a1 else x5_1) = ji10 := hji10
          obtain rfl := Option.some.inj H
          have hcz11_0 : wr.cell? ⟨gb101, 0, none⟩ = some (.int .i64 a0_0) := (bCl BK101.out 0).trans rfl
          have hcz11_1 : wr.cell? ⟨gb101, 1, none⟩ = some (.int .i64 a0_1) := (bCl BK101.out 1).trans rfl
          have hcz11_2 : wr.cell? ⟨gb101, 2, none⟩ = some (.int .i64 a0_2) := (bCl BK101.out 2).trans rfl
          have hcz11_3 : wr.cell? ⟨gb101, 3, none⟩ = some (.int .i64 a0_3) := (bCl BK101.out 3).trans rfl
          have hcz11_4 : wr.cell? ⟨gb101, 4, none⟩ = some (.string a0_4) := (bCl BK101.out 4).trans rfl
          have hcz11_5 : wr.cell? ⟨gb101, 5, none⟩ = some (.slice A0_5 l0_5.length c0_5) := (bCl BK101.out 5).trans rfl
          have hfz11_0 := bFz BK101.out 0
          have hfz11_1 := bFz BK101.out 1
          have hfz11_2 := bFz BK101.out 2
          have hfz11_3 := bFz BK101.out 3
          have hfz11_4 := bFz BK101.out 4
          have hfz11_5 := bFz BK101.out 5
          go_wp2
          go_ret
          exact ⟨by first | rfl | (simp [errW_none, errW_some] <;> rfl) | (simp only [← hji10]; first | rfl | (simp [errW_none, errW_some] <;> rfl)) | (simp [*, errW_none, errW_some] <;> rfl), by repeat (first | (with_reducible first | exact HB.out | apply wAl | apply pDN | apply wDr | refine wSt ?_ GE101.out) | exact HB.out)⟩
      · rw [if_neg c4] at H
        have c4b0 : decide (x6_1 < (l0_5.length : Int)) = false := decide_eq_false c4
        clear c4
        obtain ⟨ji12, hji12⟩ : ∃ j_ : Int, (mn x5_1 a1) = j_ := ⟨_, rfl⟩
        replace H : (some ji12) = some r := by first | (rw [hji12] at H; exact H) | (simp only [hji12] at H ⊢; exact H)
        have hji12_ : (if a1 < x5_1 then a1 else x5_1) = ji12 := hji12
        obtain rfl := Option.some.inj H
        have hcz13_0 : wr.cell? ⟨gb101, 0, none⟩ = some (.int .i64 a0_0) := (bCl BK101.out 0).trans rfl
        have hcz13_1 : wr.cell? ⟨gb101, 1, none⟩ = some (.int .i64 a0_1) := (bCl BK101.out 1).trans rfl
        have hcz13_2 : wr.cell? ⟨gb101, 2, none⟩ = some (.int .i64 a0_2) := (bCl BK101.out 2).trans rfl
        have hcz13_3 : wr.cell? ⟨gb101, 3, none⟩ = some (.int .i64 a0_3) := (bCl BK101.out 3).trans rfl
        have hcz13_4 : wr.cell? ⟨gb101, 4, none⟩ = some (.string a0_4) := (bCl BK101.out 4).trans rfl
        have hcz13_5 : wr.cell? ⟨gb101, 5, none⟩ = some (.slice A0_5 l0_5.length c0_5) := (bCl BK101.out 5).trans rfl
        have hfz13_0 := bFz BK101.out 0
        have hfz13_1 := bFz BK101.out 1
        have hfz13_2 := bFz BK101.out 2
        have hfz13_3 := bFz BK101.out 3
        have hfz13_4 := bFz BK101.out 4
        have hfz13_5 := bFz BK101.out 5
        go_wp2
        go_ret
        exact ⟨by first | rfl | (simp [errW_none, errW_some] <;> rfl) | (simp only [← hji12]; first | rfl | (simp [errW_none, errW_some] <;> rfl)) | (simp [*, errW_none, errW_some] <;> rfl), by repeat (first | (with_reducible first | exact HB.out | apply wAl | apply pDN | apply wDr | refine wSt ?_ GE101.out) | exact HB.out)⟩
end Go.Proofs.Ytgbpdfkobelbcaa.PSimpFolds
end
section
namespace Go.Proofs.Ytgbpdfkobelbcaa.PSimpFolds
open Go.RowKit Go.Proofs.YtgbpdfkobelbcaaW.PrintWords Go.Proofs.YtgbpdfkobelbcaaW.PrintLast Go.Proofs.YtgbpdfkobelbcaaW.PrintMore
attribute [local go_sem] max2_int min2_int max_two min_two max_three min_three max_four min_four
set_option linter.unusedVariables false
set_option linter.unusedSimpArgs false
mutual
def r06Size.l0 : Nat → Int → Int → Int → Int → Int → Int → ByteArray → List (S24) → Option (Int)
  | 0, _, _, _, _, _, _, _, _ => none
  | k + 1, x3, x4, x457000, x457001, x457002, x457003, x457004, x457005 => if x4 < (x457005.length : Int) then (if 0 ≤ x4 then ((r06Size.f k ((rd_T24 x457005 x4).f0) ((rd_T24 x457005 x4).f1) ((rd_T24 x457005 x4).f2) ((rd_T24 x457005 x4).f3) ((rd_T24 x457005 x4).f4) ((rd_T24 x457005 x4).f5)).bind fun t458 => (r06Size.l0 k (wrap64 (x3 + t458)) (wrap64 (x4 + 1)) x457000 x457001 x457002 x457003 x457004 x457005)) else (none)) else (some x3)
def r06Size.f : Nat → Int → Int → Int → Int → ByteArray → List (S24) → Option (Int)
  | 0, _, _, _, _, _, _ => none
  | k + 1, a0_0, a0_1, a0_2, a0_3, a0_4, l0_5 => r06Size.l0 k 1 0 a0_0 a0_1 a0_2 a0_3 a0_4 l0_5
end
set_option maxHeartbeats 8000000 in
set_option maxRecDepth 100000 in
theorem r06Size.calls (k : Nat) : ∀ (a0_0 : Int) (a0_1 : Int) (a0_2 : Int) (a0_3 : Int) (a0_4 : ByteArray) (A0_5 : Option Addr) (c0_5 : Nat) (l0_5 : List (S24)) (r : Int) (w : World) (hr0_5 : Kd.C k24 w A0_5 l0_5.length l0_5) (hc0_5 : l0_5.length ≤ c0_5) (h : r06Size.f k a0_0 a0_1 a0_2 a0_3 a0_4 l0_5 = some r),
    Calls Try.prog 10 #[.agg #[.int .i64 a0_0, .int .i64 a0_1, .int .i64 a0_2, .int .i64 a0_3, .string a0_4, .slice A0_5 l0_5.length c0_5]] w fun e w' => e = .returned (.int .i64 r) ∧ Below w.heap.size w w' := by
  induction k using Nat.strongRecOn with
  | _ k ih =>
  intro a0_0 a0_1 a0_2 a0_3 a0_4 A0_5 c0_5 l0_5 r w hr0_5 hc0_5 h
  cases k with
  | zero => exact absurd h (by simp [r06Size.f])
  | succ k =>
  simp only [r06Size.f] at h
  have hu24 := Try.underlying24
  have HR0_5 := Asd.mk hr0_5
  have HC0_5 := Asd.mk hc0_5
  clear hr0_5 hc0_5
  have HB := Asd.mk (Below.refl w.heap.size w)
  have H : (r06Size.l0 k 1 0 a0_0 a0_1 a0_2 a0_3 a0_4 l0_5) = some r := h
  clear h
  have H' := Asd.mk H
  clear H
  go_enter Try.func10, Try.ntmps10
  go_wp2_with (first | ((with_reducible refine gate_dst (N := 1) rfl ?_); refine box_event ?hg (N := 1) ?hd (cs := #[.int .i64 a0_0, .int .i64 a0_1, .int .i64 a0_2, .int .i64 a0_3, .string a0_4, .slice A0_5 l0_5.length c0_5]) (t := 24) ?hr ?_; (case hd => rfl); (case hg => rfl); (case hr => first | (go_simp; done) | (go_simp; rfl)); intro gb456 hg w2 hbox hb; have n0_ := Asd.mk (wSp (by repeat (first | (with_reducible first | exact HB.out | apply wAl | apply pDN | apply wDr) | exact HB.out)) hb); have n1_ := Asd.mk (hbox); have n2_ := Asd.mk ((by rw [hg]; exact (wSz (by repeat (first | (with_reducible first | exact HB.out | apply wAl | apply pDN | apply wDr) | exact HB.out))) : w.heap.size ≤ gb456)); have n3_ := Asd.mk ((by rw [hg]; exact (wSz (by repeat (first | (with_reducible first | exact HB.out | apply wAl | apply pDN | apply wDr) | exact HB.out))) : w.heap.size ≤ gb456)); clear HB; have HB := n0_; have BK456 := n1_; have GW456 := n2_; have GE456 := n3_; clear n0_ n1_ n2_ n3_; clear hb hbox hg))
  go_loopg [3, 4] k (fun kq v3 v4 w' => ∃ (x3_1 : Int) (x4_1 : Int), v3 = .int .i64 x3_1 ∧ v4 = .int .i64 x4_1 ∧ Asd (r06Size.l0 kq x3_1 x4_1 a0_0 a0_1 a0_2 a0_3 a0_4 l0_5 = some r) ∧ Asd (kq ≤ k) ∧ Asd (w'.heap[gb456]? = some (.cells #[.int .i64 a0_0, .int .i64 a0_1, .int .i64 a0_2, .int .i64 a0_3, .string a0_4, (.slice A0_5 l0_5.length c0_5)] 24 (0, 0))) ∧ Asd (Below w.heap.size w w'))
  case atStart => exact ⟨(1), (0), (by first | rfl | (simp; done) | (simp [*]; done)), (by first | rfl | (simp; done) | (simp [*]; done)), H', ⟨Nat.le_refl _⟩, ⟨by (with_reducible repeat (first | refine bDN ?_ _ | refine bDr ?_ | refine bAl ?_ _)); exact BK456.out⟩, ⟨by repeat (first | (with_reducible first | exact HB.out | apply wAl | apply pDN | apply wDr | refine wSt ?_ GE456.out) | exact HB.out)⟩⟩
  case round =>
    clear H'
    try clear c1
    try clear p2
    obtain ⟨x3_1, x4_1, rfl, rfl, HA, HK1, BK456, HB⟩ := hrel
    cases gk with
    | zero => exact absurd HA.out (by simp [r06Size.l0])
    | succ k1 =>
      have H := HA.out
      clear HA
      simp only [r06Size.l0] at H
      by_cases c3 : x4_1 < (l0_5.length : Int)
      · rw [if_pos c3] at H
        have c3b0 : decide (x4_1 < (l0_5.length : Int)) = true := decide_eq_true c3
        clear c3
        by_cases c4 : 0 ≤ x4_1
        · rw [if_pos c4] at H
          have c4b0 : decide (0 ≤ x4_1) = true := decide_eq_true c4
          clear c4
          replace H := Option.bind_eq_some_iff.mp H
          obtain ⟨t458, A50, H⟩ := H
          replace H : (r06Size.l0 k1 (wrap64 (x3_1 + t458)) (wrap64 (x4_1 + 1)) a0_0 a0_1 a0_2 a0_3 a0_4 l0_5) = some r := H
          have A5 := Asd.mk A50
          clear A50
          have H' := Asd.mk H
          clear H
          have hcz6_0 : wr.cell? ⟨gb456, 0, none⟩ = some (.int .i64 a0_0) := (bCl BK456.out 0).trans rfl
          have hcz6_1 : wr.cell? ⟨gb456, 1, none⟩ = some (.int .i64 a0_1) := (bCl BK456.out 1).trans rfl
          have hcz6_2 : wr.cell? ⟨gb456, 2, none⟩ = some (.int .i64 a0_2) := (bCl BK456.out 2).trans rfl
          have hcz6_3 : wr.cell? ⟨gb456, 3, none⟩ = some (.int .i64 a0_3) := (bCl BK456.out 3).trans rfl
          have hcz6_4 : wr.cell? ⟨gb456, 4, none⟩ = some (.string a0_4) := (bCl BK456.out 4).trans rfl
          have hcz6_5 : wr.cell? ⟨gb456, 5, none⟩ = some (.slice A0_5 l0_5.length c0_5) := (bCl BK456.out 5).trans rfl
          have hfz6_0 := bFz BK456.out 0
          have hfz6_1 := bFz BK456.out 1
          have hfz6_2 := bFz BK456.out 2
          have hfz6_3 := bFz BK456.out 3
          have hfz6_4 := bFz BK456.out 4
          have hfz6_5 := bFz BK456.out 5
          have p457 : 0 ≤ (x4_1 : Int) := of_decide_eq_true (by first | (with_reducible assumption) | assumption)
          have q457 : x4_1 < (l0_5.length : Int) := of_decide_eq_true (by first | (with_reducible assumption) | assumption)
          obtain ⟨ad457, A457_5, c457_5, e457, hx457_0, hx457_1, hx457_2, hx457_3, hx457_4, hx457_5, hl457_5, hi457_5⟩ := at_T24 HR0_5.out x4_1 p457 q457
          cases e457
          replace hx457_0 := (HB.out.cell (World.block_lt_of_cell? w _ hx457_0)).trans hx457_0
          replace hx457_1 := (HB.out.cell (World.block_lt_of_cell? w _ hx457_1)).trans hx457_1
          replace hx457_2 := (HB.out.cell (World.block_lt_of_cell? w _ hx457_2)).trans hx457_2
          replace hx457_3 := (HB.out.cell (World.block_lt_of_cell? w _ hx457_3)).trans hx457_3
          replace hx457_4 := (HB.out.cell (World.block_lt_of_cell? w _ hx457_4)).trans hx457_4
          replace hx457_5 := (HB.out.cell (World.block_lt_of_cell? w _ hx457_5)).trans hx457_5
          have HR457_5 := Asd.mk hi457_5
          have HC457_5 := Asd.mk hl457_5
          clear hi457_5 hl457_5
          replace p457 := eq_true p457
          replace q457 := eq_true q457
          go_wp2_with (first | ((with_reducible refine gate_callee (f := 10) rfl ?_); refine goesL_ (some 18) rfl rfl Try.func10 (by kernel_rfl) rfl #[.agg #[.int .i64 ((rd_T24 l0_5 x4_1).f0), .int .i64 ((rd_T24 l0_5 x4_1).f1), .int .i64 ((rd_T24 l0_5 x4_1).f2), .int .i64 ((rd_T24 l0_5 x4_1).f3), .string ((rd_T24 l0_5 x4_1).f4), .slice A457_5 ((rd_T24 l0_5 x4_1).f5).length c457_5]] rfl (by (try simp only [List.map_toArray, List.map_cons, List.map_nil]); first | done | rfl | (simp only [List.length_drop, List.length_take]; rfl)) ?_; (with_reducible refine (ih k1 (by have := HK1.out; omega) ((rd_T24 l0_5 x4_1).f0) ((rd_T24 l0_5 x4_1).f1) ((rd_T24 l0_5 x4_1).f2) ((rd_T24 l0_5 x4_1).f3) ((rd_T24 l0_5 x4_1).f4) _ _ ((rd_T24 l0_5 x4_1).f5) t458 _ ?side1 ?side2 A5.out).mono ?_); (case side1 => repeat (first | exact (Kd.C_below HR457_5.out HB.out) | (with_reducible refine Kd.C_alloc ?_ _) | (with_reducible refine Kd.C_drewN ?_ _) | (with_reducible refine Kd.C_drew ?_))); (case side2 => exact HC457_5.out); rintro e w7 ⟨rfl, hb⟩; refine ⟨_, rfl, ?_⟩; have n0_ := Asd.mk (blk_below (g := gb456) (o := .cells #[.int .i64 a0_0, .int .i64 a0_1, .int .i64 a0_2, .int .i64 a0_3, .string a0_4, .slice (some ad457) l0_5.length c0_5] 24 (0, 0)) (by (with_reducible repeat (first | refine bDN ?_ _ | refine bDr ?_ | refine bAl ?_ _)); exact BK456.out) hb); have n1_ := Asd.mk (wSp (by repeat (first | (with_reducible first | exact HB.out | apply wAl | apply pDN | apply wDr | refine wSt ?_ GE456.out) | exact HB.out)) hb); clear BK456; clear HB; have BK456 := n0_; have HB := n1_; clear n0_ n1_; (try clear hb); (try clear hb2); (try clear hk); (try clear hi)))
          go_roundg k1
          case measure => have := HK1.out; omega
          case rel => exact ⟨(wrap64 (x3_1 + t458)), (wrap64 (x4_1 + 1)), (by first | rfl | (simp; done) | (simp [*]; done)), (by first | rfl | (simp; done) | (simp [*]; done)), H', ⟨by have := HK1.out; omega⟩, ⟨by (with_reducible repeat (first | refine bDN ?_ _ | refine bDr ?_ | refine bAl ?_ _)); exact BK456.out⟩, ⟨by repeat (first | (with_reducible first | exact HB.out | apply wAl | apply pDN | apply wDr | refine wSt ?_ GE456.out) | exact HB.out)⟩⟩
        · rw [if_neg c4] at H
          exact absurd H (by simp)
      · rw [if_neg c3] at H
        have c3b0 : decide (x4_1 < (l0_5.length : Int)) = false := decide_eq_false c3
        clear c3
        obtain rfl := Option.some.inj H
        have hcz8_0 : wr.cell? ⟨gb456, 0, none⟩ = some (.int .i64 a0_0) := (bCl BK456.out 0).trans rfl
        have hcz8_1 : wr.cell? ⟨gb456, 1, none⟩ = some (.int .i64 a0_1) := (bCl BK456.out 1).trans rfl
        have hcz8_2 : wr.cell? ⟨gb456, 2, none⟩ = some (.int .i64 a0_2) := (bCl BK456.out 2).trans rfl
        have hcz8_3 : wr.cell? ⟨gb456, 3, none⟩ = some (.int .i64 a0_3) := (bCl BK456.out 3).trans rfl
        have hcz8_4 : wr.cell? ⟨gb456, 4, none⟩ = some (.string a0_4) := (bCl BK456.out 4).trans rfl
        have hcz8_5 : wr.cell? ⟨gb456, 5, none⟩ = some (.slice A0_5 l0_5.length c0_5) := (bCl BK456.out 5).trans rfl
        have hfz8_0 := bFz BK456.out 0
        have hfz8_1 := bFz BK456.out 1
        have hfz8_2 := bFz BK456.out 2
        have hfz8_3 := bFz BK456.out 3
        have hfz8_4 := bFz BK456.out 4
        have hfz8_5 := bFz BK456.out 5
        go_wp2
        go_ret
        exact ⟨by first | rfl | (simp [errW_none, errW_some] <;> rfl) | (simp [*, errW_none, errW_some] <;> rfl), by repeat (first | (with_reducible first | exact HB.out | apply wAl | apply pDN | apply wDr | refine wSt ?_ GE456.out) | exact HB.out)⟩
end Go.Proofs.Ytgbpdfkobelbcaa.PSimpFolds
end
section
open Go Go.Ref Go.Proofs Go.RowKit Go.Proofs.Ytgbpdfkobelbcaa.PSimpFolds Go.Proofs.YtgbpdfkobelbcaaW.PrintWords
namespace Go.Ref
mutual
def NF : S24 → Prop
  | ⟨a, b, c, d, e, l⟩ => NFs l ∧ onceX ⟨a, b, c, d, e, l⟩ = none
def NFs : List S24 → Prop
  | [] => True
  | x :: t => NF x ∧ NFs t
end
theorem NF_eq (e : S24) : NF e ↔ NFs e.f5 ∧ onceX e = none := by cases e; simp only [NF]
theorem NFs_mem {x : S24} : ∀ {l : List S24}, NFs l → x ∈ l → NF x
  | y :: t, h, hx => by
    simp only [NFs] at h
    rcases List.mem_cons.1 hx with rfl | hx
    · exact h.1
    · exact NFs_mem h.2 hx
theorem once_keeps {x y : S24} (hx : NFs x.f5) (h : onceX x = some y) : NFs y.f5 := by
  have mem : ∀ r, r ∈ x.f5 → NFs r.f5 := fun r hr => ((NF_eq r).1 (NFs_mem hx hr)).1
  rcases once_cases h with h | h | h | h | h
  · rw [(const_less h).2.1]; simp only [NFs]
  · rcases (choice_less h).2 with h | ⟨c, hc, rfl⟩
    · exact mem _ h
    · show NFs [c]; simp only [NFs, and_true]; exact NFs_mem hx hc
  · rcases (one_less h).2 with h | ⟨z, hz, h⟩
    · exact mem _ h
    · exact ((NF_eq y).1 (NFs_mem (mem z hz) h)).1
  · exact mem _ (when_less h).2
  · exact mem _ (bi_less h).2
theorem foldL_NF : ∀ (n : Nat) (x : S24), szE x ≤ n → NFs x.f5 → NF (foldL onceX n x)
  | 0, x, hn, _ => by have := szE_pos x; omega
  | n + 1, x, hn, hx => by
    show NF (match onceX x with | none => x | some y => foldL onceX n y)
    cases h : onceX x with
    | none => exact (NF_eq x).2 ⟨hx, h⟩
    | some y => have h1 := once_less h; exact foldL_NF n y (by omega) (once_keeps hx h)
mutual
theorem foldX_NF : ∀ (e : S24), NF (foldX e)
  | ⟨a, b, c, d, e, l⟩ => by
    have h := foldXs_NF l
    simp only [foldX]
    exact foldL_NF _ _ (Nat.le_refl _) h
theorem foldXs_NF : ∀ (l : List S24), NFs (foldXs l)
  | [] => by simp only [foldXs, NFs]
  | x :: t => by have h1 := foldX_NF x; have h2 := foldXs_NF t; simp only [foldXs, NFs]; exact ⟨h1, h2⟩
end
mutual
theorem NF_foldX : ∀ (e : S24), NF e → foldX e = e
  | ⟨a, b, c, d, e, l⟩, h => by
    simp only [NF] at h
    have h1 := NFs_foldXs l h.1
    simp only [foldX, h1]
    exact Shr.rest h.2 _
theorem NFs_foldXs : ∀ (l : List S24), NFs l → foldXs l = l
  | [], _ => by simp only [foldXs]
  | x :: t, h => by
    simp only [NFs] at h
    simp only [foldXs, NF_foldX x h.1, NFs_foldXs t h.2]
end
theorem fold_twice (e : S24) : foldX (foldX e) = foldX e := NF_foldX _ (foldX_NF e)
end Go.Ref
end
section
open Go Go.Ref Go.Proofs Go.RowKit Go.Proofs.YtgbpdfkobelbcaaW.PrintWords Go.Proofs.YtgbpdfkobelbcaaW.PrintLast Go.Proofs.YtgbpdfkobelbcaaW.PrintMore
namespace Go.Proofs.Ytgbpdfkobelbcaa.PSimpFolds
theorem k24_heap : Kd.Heap k24 := Kd.heap_fix (fun _ h_ => Kd.heap_iso _ (Kd.heap_pair (Kd.heap_int .i64) (Kd.heap_pair (Kd.heap_int .i64) (Kd.heap_pair (Kd.heap_int .i64) (Kd.heap_pair (Kd.heap_int .i64) (Kd.heap_pair Kd.heap_string (Kd.heap_slice 24 h_)))))))
end Go.Proofs.Ytgbpdfkobelbcaa.PSimpFolds
end
section
open Go Go.Ref Go.Proofs Go.RowKit Go.Proofs.Ytgbpdfkobelbcaa.PSimpFolds Go.Proofs.YtgbpdfkobelbcaaW.PrintWords
set_option linter.unusedSimpArgs false
namespace Go.Ref
theorem size_loop (N : Nat) (ih : ∀ (x : S24) (k : Nat), szE x ≤ N → szE x ≤ 1000000 → 2 * szE x ≤ k → r06Size.f k x.f0 x.f1 x.f2 x.f3 x.f4 x.f5 = some (szE x : Int)) (a0 a1 a2 a3 : Int) (a4 : ByteArray) (l : List S24) (hN : szL l ≤ N) (hS : szL l ≤ 1000000) :
    ∀ (rest pre : List S24) (acc : Nat) (k : Nat), l = pre ++ rest → acc + szL rest ≤ 1000001 → 2 * szL rest + 1 ≤ k → r06Size.l0 k (acc : Int) (pre.length : Int) a0 a1 a2 a3 a4 l = some ((acc + szL rest : Nat) : Int) := by
  intro rest
  induction rest with
  | nil =>
    intro pre acc k he _ hk
    rw [List.append_nil] at he
    subst he
    obtain ⟨j, rfl⟩ : ∃ j, k = j + 1 := ⟨k - 1, by omega⟩
    simp only [r06Size.l0, Int.lt_irrefl, if_false, szL_nil, Nat.add_zero]
  | cons x t ihr =>
    intro pre acc k he ha hk
    rw [szL_cons] at ha hk ⊢
    have hx0 := szE_pos x
    obtain ⟨j, rfl⟩ : ∃ j, k = j + 1 := ⟨k - 1, by omega⟩
    have hmem : szE x ≤ szL l := szL_mem (by rw [he]; simp)
    have hlen : l.length = pre.length + (t.length + 1) := by rw [he, List.length_append, List.length_cons]
    have hl := szL_len l
    have h1 : (pre.length : Int) < (l.length : Int) := by omega
    have hx : rd_T24 l (pre.length : Int) = x := by rw [he]; exact rd_at
    simp only [r06Size.l0, h1, if_true, show (0 : Int) ≤ (pre.length : Int) by omega, hx, ih x j (by omega) (by omega) (by omega), Option.bind_some]
    rw [w64i (by omega) (by omega), w64i (by omega) (by omega)]
    have := ihr (pre ++ [x]) (acc + szE x) j (by rw [he]; simp) (by omega) (by omega)
    rw [List.length_append] at this
    have e1 : ((acc + szE x : Nat) : Int) = (acc : Int) + (szE x : Int) := by omega
    have e2 : ((pre.length + [x].length : Nat) : Int) = (pre.length : Int) + 1 := by simp
    rw [e1, e2] at this
    rw [this, Nat.add_assoc]
theorem size_all : ∀ (N : Nat) (x : S24) (k : Nat), szE x ≤ N → szE x ≤ 1000000 → 2 * szE x ≤ k → r06Size.f k x.f0 x.f1 x.f2 x.f3 x.f4 x.f5 = some (szE x : Int) := by
  intro N
  induction N with
  | zero => intro x k h; have := szE_pos x; omega
  | succ N ih =>
    intro x k h1 h2 hk
    rw [szE_eq] at h1 h2 hk ⊢
    obtain ⟨j, rfl⟩ : ∃ j, k = j + 1 := ⟨k - 1, by omega⟩
    simp only [r06Size.f]
    have := size_loop N ih x.f0 x.f1 x.f2 x.f3 x.f4 x.f5 (by omega) (by omega) x.f5 [] 1 j rfl (by omega) (by omega)
    rw [Nat.add_comm (szL x.f5) 1]
    exact this
theorem weigh_loop (N : Nat) (ih : ∀ (x : S24) (k : Nat) (m : Nat), szE x ≤ N → 1 ≤ m → m ≤ 301 → 2 * szE x ≤ k → r06Weigh.f k x.f0 x.f1 x.f2 x.f3 x.f4 x.f5 (m : Int) = some ((min (szE x) m : Nat) : Int)) (a0 a1 a2 a3 : Int) (a4 : ByteArray) (l : List S24) (hN : szL l ≤ N) (m : Nat) (hm : m ≤ 301) :
    ∀ (rest pre : List S24) (n : Nat) (k : Nat), l = pre ++ rest → pre.length + 1 ≤ n → n ≤ m → 2 * szL rest + 1 ≤ k → r06Weigh.l0 k (m : Int) (n : Int) (pre.length : Int) a0 a1 a2 a3 a4 l = some ((min (n + szL rest) m : Nat) : Int) := by
  intro rest
  induction rest with
  | nil =>
    intro pre n k he hp hn hk
    rw [List.append_nil] at he
    subst he
    obtain ⟨j, rfl⟩ : ∃ j, k = j + 1 := ⟨k - 1, by omega⟩
    simp only [r06Weigh.l0, Int.lt_irrefl, if_false, szL_nil, mn]
    rw [if_neg (by omega)]
    congr 1
    omega
  | cons x t ihr =>
    intro pre n k he hp hn hk
    rw [szL_cons] at hk ⊢
    have hx0 := szE_pos x
    obtain ⟨j, rfl⟩ : ∃ j, k = j + 1 := ⟨k - 1, by omega⟩
    have hmem : szE x ≤ szL l := szL_mem (by rw [he]; simp)
    have hlen : l.length = pre.length + (t.length + 1) := by rw [he, List.length_append, List.length_cons]
    have h1 : (pre.length : Int) < (l.length : Int) := by omega
    have hx : rd_T24 l (pre.length : Int) = x := by rw [he]; exact rd_at
    by_cases hlt : n < m
    · have h2 : (n : Int) < (m : Int) := by omega
      have e0 : wrap64 ((m : Int) - (n : Int)) = ((m - n : Nat) : Int) := by rw [w64i (by omega) (by omega)]; omega
      simp only [r06Weigh.l0, h1, h2, if_true, show (0 : Int) ≤ (pre.length : Int) by omega, hx, e0, ih x j (m - n) (by omega) (by omega) (by omega) (by omega), Option.bind_some]
      rw [w64i (by omega) (by omega), w64i (by omega) (by omega)]
      have := ihr (pre ++ [x]) (n + min (szE x) (m - n)) j (by rw [he]; simp) (by rw [List.length_append]; simp; omega) (by omega) (by omega)
      rw [List.length_append] at this
      have e1 : ((n + min (szE x) (m - n) : Nat) : Int) = (n : Int) + ((min (szE x) (m - n) : Nat) : Int) := by omega
      have e2 : ((pre.length + [x].length : Nat) : Int) = (pre.length : Int) + 1 := by simp
      rw [e1, e2] at this
      rw [this]
      congr 2
      omega
    · have h2 : ¬ (n : Int) < (m : Int) := by omega
      simp only [r06Weigh.l0, h1, h2, if_true, if_false, mn]
      rw [if_neg (by omega)]
      congr 1
      omega
theorem weigh_all : ∀ (N : Nat) (x : S24) (k : Nat) (m : Nat), szE x ≤ N → 1 ≤ m → m ≤ 301 → 2 * szE x ≤ k → r06Weigh.f k x.f0 x.f1 x.f2 x.f3 x.f4 x.f5 (m : Int) = some ((min (szE x) m : Nat) : Int) := by
  intro N
  induction N with
  | zero => intro x k m h; have := szE_pos x; omega
  | succ N ih =>
    intro x k m h1 h2 h3 hk
    rw [szE_eq] at h1 hk ⊢
    obtain ⟨j, rfl⟩ : ∃ j, k = j + 1 := ⟨k - 1, by omega⟩
    simp only [r06Weigh.f]
    have := weigh_loop N ih x.f0 x.f1 x.f2 x.f3 x.f4 x.f5 (by omega) m h3 x.f5 [] 1 j rfl (by simp) h2 (by omega)
    rw [Nat.add_comm (szL x.f5) 1]
    exact this
end Go.Ref
end
section
namespace Go.Proofs.Ytgbpdfkobelbcaa.PSimpFolds
open Go.RowKit Go.Proofs.YtgbpdfkobelbcaaW.PrintWords Go.Proofs.YtgbpdfkobelbcaaW.PrintLast Go.Proofs.YtgbpdfkobelbcaaW.PrintMore
attribute [local go_sem] max2_int min2_int max_two min_two max_three min_three max_four min_four
set_option linter.unusedVariables false
set_option linter.unusedSimpArgs false
def l20SimpFolds.f (k : Nat) (a0_0 : Int) (a0_1 : Int) (a0_2 : Int) (a0_3 : Int) (a0_4 : ByteArray) (l0_5 : List (S24)) : Option (Bool) := (r06Weigh.f k a0_0 a0_1 a0_2 a0_3 a0_4 l0_5 301).bind fun t410 => (if t410 > 300 then ((l20lives.f).bind fun t411 => (some t411)) else ((simp_Fold.f k a0_0 a0_1 a0_2 a0_3 a0_4 l0_5).bind fun bt412 => ((r20Fold.f k a0_0 a0_1 a0_2 a0_3 a0_4 l0_5).bind fun bt421 => ((r06Same.f k bt412.1 bt412.2.1 bt412.2.2.1 bt412.2.2.2.1 bt412.2.2.2.2.1 bt412.2.2.2.2.2 bt421.1 bt421.2.1 bt421.2.2.1 bt421.2.2.2.1 bt421.2.2.2.2.1 bt421.2.2.2.2.2).bind fun t429 => (if t429 = true then ((r06Size.f k bt412.1 bt412.2.1 bt412.2.2.1 bt412.2.2.2.1 bt412.2.2.2.2.1 bt412.2.2.2.2.2).bind fun t430 => ((r06Size.f k a0_0 a0_1 a0_2 a0_3 a0_4 l0_5).bind fun t431 => (if t430 ≤ t431 then ((simp_Fold.f k bt412.1 bt412.2.1 bt412.2.2.1 bt412.2.2.2.1 bt412.2.2.2.2.1 bt412.2.2.2.2.2).bind fun bt432 => ((r06Same.f k bt432.1 bt432.2.1 bt432.2.2.1 bt432.2.2.2.1 bt432.2.2.2.2.1 bt432.2.2.2.2.2 bt412.1 bt412.2.1 bt412.2.2.1 bt412.2.2.2.1 bt412.2.2.2.2.1 bt412.2.2.2.2.2).bind fun t440 => (if t440 = true then ((l20lives.f).bind fun t441 => (some t441)) else (some false)))) else (some false)))) else (some false))))))
def l20SimpFolds.T4 : Bool × List (List Nat × List Nat) := (true, [([], []), ([], []), ([1], [1]), ([0, 2, 2], [0, 2]), ([3, 3], [3]), ([4], [4]), ([5, 4, 4], [4, 5]), ([4], [4]), ([7, 6, 4], [4, 7]), ([6, 8, 4], [4, 6, 8]), ([4, 9], [4, 9]), ([10, 8], [10]), ([11], [11]), ([12, 11, 11], [11, 12]), ([11], [11]), ([13, 14, 13, 11], [11, 13, 14]), ([11, 15], [11, 15]), ([16, 15], [16]), ([17, 17], [17]), ([17, 18], [17, 18]), ([19, 18, 0, 1, 2, 3, 4, 5, 6, 7, 8, 9, 10, 11, 12, 13, 14, 15, 16, 17, 18, 19], [19])])
def l20SimpFolds.B4 : List Nat := [0, 0, 2, 7, 15, 31, 63, 31, 255, 511, 1023, 2047, 4095, 8191, 4095, 32767, 65535, 131071, 262143, 524287, 1048575]
theorem l20SimpFolds.tab4 : rtab .any (opsOf Try.f3 4) = l20SimpFolds.T4 := by kernel_rfl
theorem l20SimpFolds.bits4 : waitsOk l20SimpFolds.T4.2 l20SimpFolds.B4 = true := by kernel_rfl
set_option maxHeartbeats 8000000 in
set_option maxRecDepth 100000 in
theorem l20SimpFolds.calls (k : Nat) (a0_0 : Int) (a0_1 : Int) (a0_2 : Int) (a0_3 : Int) (a0_4 : ByteArray) (A0_5 : Option Addr) (c0_5 : Nat) (l0_5 : List (S24)) (r : Bool) (w : World) (hr0_5 : Kd.C k24 w A0_5 l0_5.length l0_5) (hc0_5 : l0_5.length ≤ c0_5) (hrt : Asd (r = true)) (h : l20SimpFolds.f k a0_0 a0_1 a0_2 a0_3 a0_4 l0_5 = some r) :
    Calls Try.prog 3 #[.agg #[.int .i64 a0_0, .int .i64 a0_1, .int .i64 a0_2, .int .i64 a0_3, .string a0_4, .slice A0_5 l0_5.length c0_5]] w fun e w' => e = .returned (.bool r) ∧ Below w.heap.size w w' := by
  have hu24 := Try.underlying24
  have HR0_5 := Asd.mk hr0_5
  have HC0_5 := Asd.mk hc0_5
  clear hr0_5 hc0_5
  have HB := Asd.mk (Below.refl w.heap.size w)
  have H : ((r06Weigh.f k a0_0 a0_1 a0_2 a0_3 a0_4 l0_5 301).bind fun t410 => (if t410 > 300 then ((l20lives.f).bind fun t411 => (some t411)) else ((simp_Fold.f k a0_0 a0_1 a0_2 a0_3 a0_4 l0_5).bind fun bt412 => ((r20Fold.f k a0_0 a0_1 a0_2 a0_3 a0_4 l0_5).bind fun bt421 => ((r06Same.f k bt412.1 bt412.2.1 bt412.2.2.1 bt412.2.2.2.1 bt412.2.2.2.2.1 bt412.2.2.2.2.2 bt421.1 bt421.2.1 bt421.2.2.1 bt421.2.2.2.1 bt421.2.2.2.2.1 bt421.2.2.2.2.2).bind fun t429 => (if t429 = true then ((r06Size.f k bt412.1 bt412.2.1 bt412.2.2.1 bt412.2.2.2.1 bt412.2.2.2.2.1 bt412.2.2.2.2.2).bind fun t430 => ((r06Size.f k a0_0 a0_1 a0_2 a0_3 a0_4 l0_5).bind fun t431 => (if t430 ≤ t431 then ((simp_Fold.f k bt412.1 bt412.2.1 bt412.2.2.1 bt412.2.2.2.1 bt412.2.2.2.2.1 bt412.2.2.2.2.2).bind fun bt432 => ((r06Same.f k bt432.1 bt432.2.1 bt432.2.2.1 bt432.2.2.2.1 bt432.2.2.2.2.1 bt432.2.2.2.2.2 bt412.1 bt412.2.1 bt412.2.2.1 bt412.2.2.2.1 bt412.2.2.2.2.1 bt412.2.2.2.2.2).bind fun t440 => (if t440 = true then ((l20lives.f).bind fun t441 => (some t441)) else (some false)))) else (some false)))) else (some false))))))) = some r := h
  clear h
  replace H := Option.bind_eq_some_iff.mp H
  obtain ⟨t410, A20, H⟩ := H
  replace H : (if t410 > 300 then ((l20lives.f).bind fun t411 => (some t411)) else ((simp_Fold.f k a0_0 a0_1 a0_2 a0_3 a0_4 l0_5).bind fun bt412 => ((r20Fold.f k a0_0 a0_1 a0_2 a0_3 a0_4 l0_5).bind fun bt421 => ((r06Same.f k bt412.1 bt412.2.1 bt412.2.2.1 bt412.2.2.2.1 bt412.2.2.2.2.1 bt412.2.2.2.2.2 bt421.1 bt421.2.1 bt421.2.2.1 bt421.2.2.2.1 bt421.2.2.2.2.1 bt421.2.2.2.2.2).bind fun t429 => (if t429 = true then ((r06Size.f k bt412.1 bt412.2.1 bt412.2.2.1 bt412.2.2.2.1 bt412.2.2.2.2.1 bt412.2.2.2.2.2).bind fun t430 => ((r06Size.f k a0_0 a0_1 a0_2 a0_3 a0_4 l0_5).bind fun t431 => (if t430 ≤ t431 then ((simp_Fold.f k bt412.1 bt412.2.1 bt412.2.2.1 bt412.2.2.2.1 bt412.2.2.2.2.1 bt412.2.2.2.2.2).bind fun bt432 => ((r06Same.f k bt432.1 bt432.2.1 bt432.2.2.1 bt432.2.2.2.1 bt432.2.2.2.2.1 bt432.2.2.2.2.2 bt412.1 bt412.2.1 bt412.2.2.1 bt412.2.2.2.1 bt412.2.2.2.2.1 bt412.2.2.2.2.2).bind fun t440 => (if t440 = true then ((l20lives.f).bind fun t441 => (some t441)) else (some false)))) else (some false)))) else (some false)))))) = some r := H
  have A2 := Asd.mk A20
  clear A20
  by_cases c3 : t410 > 300
  · rw [if_pos c3] at H
    have c3b0 : decide (300 < t410) = true := decide_eq_true c3
    clear c3
    replace H := Option.bind_eq_some_iff.mp H
    obtain ⟨t411, A40, H⟩ := H
    replace H : (some t411) = some r := H
    have A4 := Asd.mk A40
    clear A40
    obtain rfl := Option.some.inj H
    go_enter Try.func3, Try.ntmps3
    go_wp2_with (first | ((with_reducible refine gate_dst (N := 1) rfl ?_); refine box_event ?hg (N := 1) ?hd (cs := #[.int .i64 a0_0, .int .i64 a0_1, .int .i64 a0_2, .int .i64 a0_3, .string a0_4, .slice A0_5 l0_5.length c0_5]) (t := 24) ?hr ?_; (case hd => rfl); (case hg => rfl); (case hr => first | (go_simp; done) | (go_simp; rfl)); intro gb409 hg w5 hbox hb; have n0_ := Asd.mk (wSp (by repeat (first | (with_reducible first | exact HB.out | apply wAl | apply pDN | apply wDr) | exact HB.out)) hb); have n1_ := Asd.mk (hbox); have n2_ := Asd.mk ((by rw [hg]; exact (wSz (by repeat (first | (with_reducible first | exact HB.out | apply wAl | apply pDN | apply wDr) | exact HB.out))) : w.heap.size ≤ gb409)); have n3_ := Asd.mk ((by rw [hg]; exact (wSz (by repeat (first | (with_reducible first | exact HB.out | apply wAl | apply pDN | apply wDr) | exact HB.out))) : w.heap.size ≤ gb409)); clear HB; have HB := n0_; have BK409 := n1_; have GW409 := n2_; have GE409 := n3_; clear n0_ n1_ n2_ n3_; clear hb hbox hg; have hcz6_0 : w5.cell? ⟨gb409, 0, none⟩ = some (.int .i64 a0_0) := (bCl BK409.out 0).trans rfl; have hcz6_1 : w5.cell? ⟨gb409, 1, none⟩ = some (.int .i64 a0_1) := (bCl BK409.out 1).trans rfl; have hcz6_2 : w5.cell? ⟨gb409, 2, none⟩ = some (.int .i64 a0_2) := (bCl BK409.out 2).trans rfl; have hcz6_3 : w5.cell? ⟨gb409, 3, none⟩ = some (.int .i64 a0_3) := (bCl BK409.out 3).trans rfl; have hcz6_4 : w5.cell? ⟨gb409, 4, none⟩ = some (.string a0_4) := (bCl BK409.out 4).trans rfl; have hcz6_5 : w5.cell? ⟨gb409, 5, none⟩ = some (.slice A0_5 l0_5.length c0_5) := (bCl BK409.out 5).trans rfl; have hfz6_0 := bFz BK409.out 0; have hfz6_1 := bFz BK409.out 1; have hfz6_2 := bFz BK409.out 2; have hfz6_3 := bFz BK409.out 3; have hfz6_4 := bFz BK409.out 4; have hfz6_5 := bFz BK409.out 5) | ((with_reducible refine gate_callee (f := 5) rfl ?_); refine goesL_ (some 5) rfl rfl Try.func5 (by kernel_rfl) rfl #[.agg #[.int .i64 a0_0, .int .i64 a0_1, .int .i64 a0_2, .int .i64 a0_3, .string a0_4, .slice A0_5 l0_5.length c0_5], .int .i64 301] rfl (by (try simp only [List.map_toArray, List.map_cons, List.map_nil]); first | done | rfl | (simp only [List.length_drop, List.length_take]; rfl)) ?_; (with_reducible refine (r06Weigh.calls k a0_0 a0_1 a0_2 a0_3 a0_4 _ _ l0_5 301 t410 _ ?side1 ?side2 A2.out).mono ?_); (case side1 => repeat (first | exact (Kd.C_below HR0_5.out HB.out) | (with_reducible refine Kd.C_alloc ?_ _) | (with_reducible refine Kd.C_drewN ?_ _) | (with_reducible refine Kd.C_drew ?_))); (case side2 => exact HC0_5.out); rintro e w7 ⟨rfl, hb⟩; refine ⟨_, rfl, ?_⟩; have n0_ := Asd.mk (blk_below (g := gb409) (o := .cells #[.int .i64 a0_0, .int .i64 a0_1, .int .i64 a0_2, .int .i64 a0_3, .string a0_4, .slice A0_5 l0_5.length c0_5] 24 (0, 0)) (by (with_reducible repeat (first | refine bDN ?_ _ | refine bDr ?_ | refine bAl ?_ _)); exact BK409.out) hb); have n1_ := Asd.mk (wSp (by repeat (first | (with_reducible first | exact HB.out | apply wAl | apply pDN | apply wDr | refine wSt ?_ GE409.out) | exact HB.out)) hb); clear BK409; clear HB; have BK409 := n0_; have HB := n1_; clear n0_ n1_; (try clear hb); (try clear hb2); (try clear hk); (try clear hi)) | ((with_reducible refine gate_callee (f := 6) rfl ?_); refine goesL_ (some 7) rfl rfl Try.func6 (by kernel_rfl) rfl #[] rfl (by (try simp only [List.map_toArray, List.map_cons, List.map_nil]); first | done | rfl | (simp only [List.length_drop, List.length_take]; rfl)) ?_; (with_reducible refine (l20lives.calls  t411 _ A4.out).mono ?_); rintro e w8 ⟨rfl, hb⟩; refine ⟨_, rfl, ?_⟩; have n0_ := Asd.mk (blk_below (g := gb409) (o := .cells #[.int .i64 a0_0, .int .i64 a0_1, .int .i64 a0_2, .int .i64 a0_3, .string a0_4, .slice A0_5 l0_5.length c0_5] 24 (0, 0)) (by (with_reducible repeat (first | refine bDN ?_ _ | refine bDr ?_ | refine bAl ?_ _)); exact BK409.out) hb); have n1_ := Asd.mk (wSp (by repeat (first | (with_reducible first | exact HB.out | apply wAl | apply pDN | apply wDr | refine wSt ?_ GE409.out) | exact HB.out)) hb); clear BK409; clear HB; have BK409 := n0_; have HB := n1_; clear n0_ n1_; (try clear hb); (try clear hb2); (try clear hk); (try clear hi)))
    go_ret
    exact ⟨by first | rfl | (simp [errW_none, errW_some] <;> rfl) | (simp [*, errW_none, errW_some] <;> rfl), by repeat (first | (with_reducible first | exact HB.out | apply wAl | apply pDN | apply wDr | refine wSt ?_ GE409.out) | exact HB.out)⟩
  · rw [if_neg c3] at H
    have c3b0 : decide (300 < t410) = false := decide_eq_false c3
    clear c3
    replace H := Option.bind_eq_some_iff.mp H
    obtain ⟨⟨t412, t413, t414, t415, t416, t417⟩, A90, H⟩ := H
    replace H : ((r20Fold.f k a0_0 a0_1 a0_2 a0_3 a0_4 l0_5).bind fun bt421 => ((r06Same.f k t412 t413 t414 t415 t416 t417 bt421.1 bt421.2.1 bt421.2.2.1 bt421.2.2.2.1 bt421.2.2.2.2.1 bt421.2.2.2.2.2).bind fun t429 => (if t429 = true then ((r06Size.f k t412 t413 t414 t415 t416 t417).bind fun t430 => ((r06Size.f k a0_0 a0_1 a0_2 a0_3 a0_4 l0_5).bind fun t431 => (if t430 ≤ t431 then ((simp_Fold.f k t412 t413 t414 t415 t416 t417).bind fun bt432 => ((r06Same.f k bt432.1 bt432.2.1 bt432.2.2.1 bt432.2.2.2.1 bt432.2.2.2.2.1 bt432.2.2.2.2.2 t412 t413 t414 t415 t416 t417).bind fun t440 => (if t440 = true then ((l20lives.f).bind fun t441 => (some t441)) else (some false)))) else (some false)))) else (some false)))) = some r := H
    have A9 := Asd.mk A90
    clear A90
    replace H := Option.bind_eq_some_iff.mp H
    obtain ⟨⟨t421, t422, t423, t424, t425, t426⟩, A100, H⟩ := H
    replace H : ((r06Same.f k t412 t413 t414 t415 t416 t417 t421 t422 t423 t424 t425 t426).bind fun t429 => (if t429 = true then ((r06Size.f k t412 t413 t414 t415 t416 t417).bind fun t430 => ((r06Size.f k a0_0 a0_1 a0_2 a0_3 a0_4 l0_5).bind fun t431 => (if t430 ≤ t431 then ((simp_Fold.f k t412 t413 t414 t415 t416 t417).bind fun bt432 => ((r06Same.f k bt432.1 bt432.2.1 bt432.2.2.1 bt432.2.2.2.1 bt432.2.2.2.2.1 bt432.2.2.2.2.2 t412 t413 t414 t415 t416 t417).bind fun t440 => (if t440 = true then ((l20lives.f).bind fun t441 => (some t441)) else (some false)))) else (some false)))) else (some false))) = some r := H
    have A10 := Asd.mk A100
    clear A100
    replace H := Option.bind_eq_some_iff.mp H
    obtain ⟨t429, A110, H⟩ := H
    replace H : (if t429 = true then ((r06Size.f k t412 t413 t414 t415 t416 t417).bind fun t430 => ((r06Size.f k a0_0 a0_1 a0_2 a0_3 a0_4 l0_5).bind fun t431 => (if t430 ≤ t431 then ((simp_Fold.f k t412 t413 t414 t415 t416 t417).bind fun bt432 => ((r06Same.f k bt432.1 bt432.2.1 bt432.2.2.1 bt432.2.2.2.1 bt432.2.2.2.2.1 bt432.2.2.2.2.2 t412 t413 t414 t415 t416 t417).bind fun t440 => (if t440 = true then ((l20lives.f).bind fun t441 => (some t441)) else (some false)))) else (some false)))) else (some false)) = some r := H
    have A11 := Asd.mk A110
    clear A110
    by_cases c12 : t429 = true
    · subst c12
      have H1 : ((r06Size.f k t412 t413 t414 t415 t416 t417).bind fun t430 => ((r06Size.f k a0_0 a0_1 a0_2 a0_3 a0_4 l0_5).bind fun t431 => (if t430 ≤ t431 then ((simp_Fold.f k t412 t413 t414 t415 t416 t417).bind fun bt432 => ((r06Same.f k bt432.1 bt432.2.1 bt432.2.2.1 bt432.2.2.2.1 bt432.2.2.2.2.1 bt432.2.2.2.2.2 t412 t413 t414 t415 t416 t417).bind fun t440 => (if t440 = true then ((l20lives.f).bind fun t441 => (some t441)) else (some false)))) else (some false)))) = some r := by rw [if_pos rfl] at H; exact H
      clear H
      have H := H1
      clear H1
      replace H := Option.bind_eq_some_iff.mp H
      obtain ⟨t430, A130, H⟩ := H
      replace H : ((r06Size.f k a0_0 a0_1 a0_2 a0_3 a0_4 l0_5).bind fun t431 => (if t430 ≤ t431 then ((simp_Fold.f k t412 t413 t414 t415 t416 t417).bind fun bt432 => ((r06Same.f k bt432.1 bt432.2.1 bt432.2.2.1 bt432.2.2.2.1 bt432.2.2.2.2.1 bt432.2.2.2.2.2 t412 t413 t414 t415 t416 t417).bind fun t440 => (if t440 = true then ((l20lives.f).bind fun t441 => (some t441)) else (some false)))) else (some false))) = some r := H
      have A13 := Asd.mk A130
      clear A130
      replace H := Option.bind_eq_some_iff.mp H
      obtain ⟨t431, A140, H⟩ := H
      replace H : (if t430 ≤ t431 then ((simp_Fold.f k t412 t413 t414 t415 t416 t417).bind fun bt432 => ((r06Same.f k bt432.1 bt432.2.1 bt432.2.2.1 bt432.2.2.2.1 bt432.2.2.2.2.1 bt432.2.2.2.2.2 t412 t413 t414 t415 t416 t417).bind fun t440 => (if t440 = true then ((l20lives.f).bind fun t441 => (some t441)) else (some false)))) else (some false)) = some r := H
      have A14 := Asd.mk A140
      clear A140
      by_cases c15 : t430 ≤ t431
      · rw [if_pos c15] at H
        have c15b0 : decide (t430 ≤ t431) = true := decide_eq_true c15
        clear c15
        replace H := Option.bind_eq_some_iff.mp H
        obtain ⟨⟨t432, t433, t434, t435, t436, t437⟩, A160, H⟩ := H
        replace H : ((r06Same.f k t432 t433 t434 t435 t436 t437 t412 t413 t414 t415 t416 t417).bind fun t440 => (if t440 = true then ((l20lives.f).bind fun t441 => (some t441)) else (some false))) = some r := H
        have A16 := Asd.mk A160
        clear A160
        replace H := Option.bind_eq_some_iff.mp H
        obtain ⟨t440, A170, H⟩ := H
        replace H : (if t440 = true then ((l20lives.f).bind fun t441 => (some t441)) else (some false)) = some r := H
        have A17 := Asd.mk A170
        clear A170
        by_cases c18 : t440 = true
        · subst c18
          have H1 : ((l20lives.f).bind fun t441 => (some t441)) = some r := by rw [if_pos rfl] at H; exact H
          clear H
          have H := H1
          clear H1
          replace H := Option.bind_eq_some_iff.mp H
          obtain ⟨t441, A190, H⟩ := H
          replace H : (some t441) = some r := H
          have A19 := Asd.mk A190
          clear A190
          obtain rfl := Option.some.inj H
          go_enter Try.func3, Try.ntmps3
          try go_wp2_with (first | ((with_reducible refine gate_dst (N := 1) rfl ?_); refine box_event ?hg (N := 1) ?hd (cs := #[.int .i64 a0_0, .int .i64 a0_1, .int .i64 a0_2, .int .i64 a0_3, .string a0_4, .slice A0_5 l0_5.length c0_5]) (t := 24) ?hr ?_; (case hd => rfl); (case hg => rfl); (case hr => first | (go_simp; done) | (go_simp; rfl)); intro gb409 hg w20 hbox hb; have n0_ := Asd.mk (wSp (by repeat (first | (with_reducible first | exact HB.out | apply wAl | apply pDN | apply wDr) | exact HB.out)) hb); have n1_ := Asd.mk (hbox); have n2_ := Asd.mk ((by rw [hg]; exact (wSz (by repeat (first | (with_reducible first | exact HB.out | apply wAl | apply pDN | apply wDr) | exact HB.out))) : w.heap.size ≤ gb409)); have n3_ := Asd.mk ((by rw [hg]; exact (wSz (by repeat (first | (with_reducible first | exact HB.out | apply wAl | apply pDN | apply wDr) | exact HB.out))) : w.heap.size ≤ gb409)); clear HB; have HB := n0_; have BK409 := n1_; have GW409 := n2_; have GE409 := n3_; clear n0_ n1_ n2_ n3_; clear hb hbox hg; have hcz21_0 : w20.cell? ⟨gb409, 0, none⟩ = some (.int .i64 a0_0) := (bCl BK409.out 0).trans rfl; have hcz21_1 : w20.cell? ⟨gb409, 1, none⟩ = some (.int .i64 a0_1) := (bCl BK409.out 1).trans rfl; have hcz21_2 : w20.cell? ⟨gb409, 2, none⟩ = some (.int .i64 a0_2) := (bCl BK409.out 2).trans rfl; have hcz21_3 : w20.cell? ⟨gb409, 3, none⟩ = some (.int .i64 a0_3) := (bCl BK409.out 3).trans rfl; have hcz21_4 : w20.cell? ⟨gb409, 4, none⟩ = some (.string a0_4) := (bCl BK409.out 4).trans rfl; have hcz21_5 : w20.cell? ⟨gb409, 5, none⟩ = some (.slice A0_5 l0_5.length c0_5) := (bCl BK409.out 5).trans rfl; have hfz21_0 := bFz BK409.out 0; have hfz21_1 := bFz BK409.out 1; have hfz21_2 := bFz BK409.out 2; have hfz21_3 := bFz BK409.out 3; have hfz21_4 := bFz BK409.out 4; have hfz21_5 := bFz BK409.out 5) | ((with_reducible refine gate_callee (f := 5) rfl ?_); refine goesL_ (some 5) rfl rfl Try.func5 (by kernel_rfl) rfl #[.agg #[.int .i64 a0_0, .int .i64 a0_1, .int .i64 a0_2, .int .i64 a0_3, .string a0_4, .slice A0_5 l0_5.length c0_5], .int .i64 301] rfl (by (try simp only [List.map_toArray, List.map_cons, List.map_nil]); first | done | rfl | (simp only [List.length_drop, List.length_take]; rfl)) ?_; (with_reducible refine (r06Weigh.calls k a0_0 a0_1 a0_2 a0_3 a0_4 _ _ l0_5 301 t410 _ ?side1 ?side2 A2.out).mono ?_); (case side1 => repeat (first | exact (Kd.C_below HR0_5.out HB.out) | (with_reducible refine Kd.C_alloc ?_ _) | (with_reducible refine Kd.C_drewN ?_ _) | (with_reducible refine Kd.C_drew ?_))); (case side2 => exact HC0_5.out); rintro e w22 ⟨rfl, hb⟩; refine ⟨_, rfl, ?_⟩; have n0_ := Asd.mk (blk_below (g := gb409) (o := .cells #[.int .i64 a0_0, .int .i64 a0_1, .int .i64 a0_2, .int .i64 a0_3, .string a0_4, .slice A0_5 l0_5.length c0_5] 24 (0, 0)) (by (with_reducible repeat (first | refine bDN ?_ _ | refine bDr ?_ | refine bAl ?_ _)); exact BK409.out) hb); have n1_ := Asd.mk (wSp (by repeat (first | (with_reducible first | exact HB.out | apply wAl | apply pDN | apply wDr | refine wSt ?_ GE409.out) | exact HB.out)) hb); clear BK409; clear HB; have BK409 := n0_; have HB := n1_; clear n0_ n1_; (try clear hb); (try clear hb2); (try clear hk); (try clear hi); have hcz23_0 : w22.cell? ⟨gb409, 0, none⟩ = some (.int .i64 a0_0) := (bCl BK409.out 0).trans rfl; have hcz23_1 : w22.cell? ⟨gb409, 1, none⟩ = some (.int .i64 a0_1) := (bCl BK409.out 1).trans rfl; have hcz23_2 : w22.cell? ⟨gb409, 2, none⟩ = some (.int .i64 a0_2) := (bCl BK409.out 2).trans rfl; have hcz23_3 : w22.cell? ⟨gb409, 3, none⟩ = some (.int .i64 a0_3) := (bCl BK409.out 3).trans rfl; have hcz23_4 : w22.cell? ⟨gb409, 4, none⟩ = some (.string a0_4) := (bCl BK409.out 4).trans rfl; have hcz23_5 : w22.cell? ⟨gb409, 5, none⟩ = some (.slice A0_5 l0_5.length c0_5) := (bCl BK409.out 5).trans rfl; have hfz23_0 := bFz BK409.out 0; have hfz23_1 := bFz BK409.out 1; have hfz23_2 := bFz BK409.out 2; have hfz23_3 := bFz BK409.out 3; have hfz23_4 := bFz BK409.out 4; have hfz23_5 := bFz BK409.out 5) | ((with_reducible refine gate_callee (f := 7) rfl ?_); refine goesL_ (some 9) rfl rfl Try.func7 (by kernel_rfl) rfl #[.agg #[.int .i64 a0_0, .int .i64 a0_1, .int .i64 a0_2, .int .i64 a0_3, .string a0_4, .slice A0_5 l0_5.length c0_5]] rfl (by (try simp only [List.map_toArray, List.map_cons, List.map_nil]); first | done | rfl | (simp only [List.length_drop, List.length_take]; rfl)) ?_; (with_reducible refine (simp_Fold.calls k a0_0 a0_1 a0_2 a0_3 a0_4 (fun k_ => k_ < w.heap.size) _ _ l0_5 t412 t413 t414 t415 t416 t417 _ ?side1 A9.out).mono ?_); (case side1 => exact Kd.V_mk HC0_5.out (Kd.F_below (Kd.C_F k24_heap HR0_5.out) (by repeat (first | (with_reducible first | exact HB.out | apply wAl | apply pDN | apply wDr | refine wSt ?_ GE409.out) | exact HB.out)))); rintro e w24 ⟨v418, rfl, ho0, hb⟩; refine ⟨_, rfl, ?_⟩; have n0_ := Asd.mk (Kd.V_lower (Kd.V_mono (ok' := fun k_ => k_ ≠ gb409) ho0 (fun k_ hk_ => Or.elim hk_ (fun hs_ => fun e_ => Nat.not_le.2 hs_ (by rw [e_]; exact GW409.out)) (fun hn_ => (Kd.freshB (g := gb409) (o := .cells #[.int .i64 a0_0, .int .i64 a0_1, .int .i64 a0_2, .int .i64 a0_3, .string a0_4, .slice A0_5 l0_5.length c0_5] 24 (0, 0)) (by (with_reducible repeat (first | refine bDN ?_ _ | refine bDr ?_ | refine bAl ?_ _)); exact BK409.out) k_ hn_)))) (wSz (by repeat (first | (with_reducible first | exact HB.out | apply wAl | apply pDN | apply wDr | refine wSt ?_ GE409.out) | exact HB.out)))); have n1_ := Asd.mk (blk_below (g := gb409) (o := .cells #[.int .i64 a0_0, .int .i64 a0_1, .int .i64 a0_2, .int .i64 a0_3, .string a0_4, .slice A0_5 l0_5.length c0_5] 24 (0, 0)) (by (with_reducible repeat (first | refine bDN ?_ _ | refine bDr ?_ | refine bAl ?_ _)); exact BK409.out) hb); have n2_ := Asd.mk (wSp (by repeat (first | (with_reducible first | exact HB.out | apply wAl | apply pDN | apply wDr | refine wSt ?_ GE409.out) | exact HB.out)) hb); clear BK409; clear HB; have HO419 := n0_; have BK409 := n1_; have HB := n2_; clear n0_ n1_ n2_; (try clear hb); (try clear hb2); (try clear hk); (try clear hi); (try clear ho0)) | ((with_reducible refine gate_dst (N := 3) rfl ?_); refine box_event ?hg (N := 3) ?hd (cs := #[.int .i64 0, .int .i64 0, .int .i64 0, .int .i64 0, .string (⟨#[]⟩ : ByteArray), .slice none 0 0]) (t := 24) ?hr ?_; (case hd => rfl); (case hg => rfl); (case hr => first | (go_simp; done) | (go_simp; rfl)); intro gb420 hg w25 hbox hb; have n0_ := Asd.mk (Kd.V_below (Kd.V_elderB (by (with_reducible repeat (first | apply Kd.V_alloc | apply Kd.V_drewN | apply Kd.V_drew)); exact HO419.out) gb420 (Nat.le_of_eq hg.symm)) hb); have n1_ := Asd.mk (blk_below (g := gb409) (o := .cells #[.int .i64 a0_0, .int .i64 a0_1, .int .i64 a0_2, .int .i64 a0_3, .string a0_4, .slice A0_5 l0_5.length c0_5] 24 (0, 0)) (by (with_reducible repeat (first | refine bDN ?_ _ | refine bDr ?_ | refine bAl ?_ _)); exact BK409.out) hb); have n2_ := Asd.mk (wSp (by repeat (first | (with_reducible first | exact HB.out | apply wAl | apply pDN | apply wDr | refine wSt ?_ GE409.out) | exact HB.out)) hb); have n3_ := Asd.mk (hbox); have n4_ := Asd.mk ((by rw [hg]; exact (wSz (by repeat (first | (with_reducible first | exact HB.out | apply wAl | apply pDN | apply wDr | refine wSt ?_ GE409.out) | exact HB.out))) : w.heap.size ≤ gb420)); have n5_ := Asd.mk ((by rw [hg]; exact (wSz (by repeat (first | (with_reducible first | exact HB.out | apply wAl | apply pDN | apply wDr | refine wSt ?_ GE409.out) | exact HB.out))) : w.heap.size ≤ gb420)); have n6_ := Asd.mk ((by rw [hg]; exact Nat.ne_of_lt (blk_lt (g := gb409) (o := .cells #[.int .i64 a0_0, .int .i64 a0_1, .int .i64 a0_2, .int .i64 a0_3, .string a0_4, .slice A0_5 l0_5.length c0_5] 24 (0, 0)) (by (with_reducible repeat (first | refine bDN ?_ _ | refine bDr ?_ | refine bAl ?_ _)); exact BK409.out)) : gb409 ≠ gb420)); have n7_ := Asd.mk ((by rw [hg]; exact Nat.ne_of_gt (blk_lt (g := gb409) (o := .cells #[.int .i64 a0_0, .int .i64 a0_1, .int .i64 a0_2, .int .i64 a0_3, .string a0_4, .slice A0_5 l0_5.length c0_5] 24 (0, 0)) (by (with_reducible repeat (first | refine bDN ?_ _ | refine bDr ?_ | refine bAl ?_ _)); exact BK409.out)) : gb420 ≠ gb409)); clear HO419; clear BK409; clear HB; have HO419 := n0_; have BK409 := n1_; have HB := n2_; have BK420 := n3_; have GW420 := n4_; have GE420 := n5_; have NB409_420 := n6_; have NB420_409 := n7_; clear n0_ n1_ n2_ n3_ n4_ n5_ n6_ n7_; clear hb hbox hg; have hnb26 := NB420_409.out; have hnc26 := NB409_420.out; have hcz27_0 : w25.cell? ⟨gb420, 0, none⟩ = some (.int .i64 0) := (bCl BK420.out 0).trans rfl; have hcz27_1 : w25.cell? ⟨gb420, 1, none⟩ = some (.int .i64 0) := (bCl BK420.out 1).trans rfl; have hcz27_2 : w25.cell? ⟨gb420, 2, none⟩ = some (.int .i64 0) := (bCl BK420.out 2).trans rfl; have hcz27_3 : w25.cell? ⟨gb420, 3, none⟩ = some (.int .i64 0) := (bCl BK420.out 3).trans rfl; have hcz27_4 : w25.cell? ⟨gb420, 4, none⟩ = some (.string (⟨#[]⟩ : ByteArray)) := (bCl BK420.out 4).trans rfl; have hcz27_5 : w25.cell? ⟨gb420, 5, none⟩ = some (.slice none 0 0) := (bCl BK420.out 5).trans rfl; have hfz27_0 := bFz BK420.out 0; have hfz27_1 := bFz BK420.out 1; have hfz27_2 := bFz BK420.out 2; have hfz27_3 := bFz BK420.out 3; have hfz27_4 := bFz BK420.out 4; have hfz27_5 := bFz BK420.out 5; obtain ⟨Ao28, co28, eo28⟩ := Kd.V_slice HO419.out; subst eo28))
          have n0_ : Asd (Kd.V k24 24 ((((((w25.setCell ⟨gb420, 0, none⟩ (.int .i64 t412)).setCell ⟨gb420, 1, none⟩ (.int .i64 t413)).setCell ⟨gb420, 2, none⟩ (.int .i64 t414)).setCell ⟨gb420, 3, none⟩ (.int .i64 t415)).setCell ⟨gb420, 4, none⟩ (.string t416)).setCell ⟨gb420, 5, none⟩ (.slice Ao28 t417.length co28)) w.heap.size (fun k_ => k_ ≠ gb409 ∧ k_ ≠ gb420) (.slice Ao28 t417.length co28) t417) := ⟨by (with_reducible repeat (first | apply Kd.V_alloc | apply Kd.V_drewN | apply Kd.V_drew)); exact Kd.V_mono (Kd.V_far (p := ⟨gb420, 5, none⟩) (Kd.V_far (p := ⟨gb420, 4, none⟩) (Kd.V_far (p := ⟨gb420, 3, none⟩) (Kd.V_far (p := ⟨gb420, 2, none⟩) (Kd.V_far (p := ⟨gb420, 1, none⟩) (Kd.V_far (p := ⟨gb420, 0, none⟩) (Kd.V_mono HO419.out (fun k_ hk => (⟨hk, hk.2⟩ : _ ∧ k_ ≠ gb420))) (fun _ hk => hk.2) (.int .i64 t412)) (fun _ hk => hk.2) (.int .i64 t413)) (fun _ hk => hk.2) (.int .i64 t414)) (fun _ hk => hk.2) (.int .i64 t415)) (fun _ hk => hk.2) (.string t416)) (fun _ hk => hk.2) (.slice Ao28 t417.length co28)) (fun _ hk => ⟨hk.1.1, hk.1.2⟩)⟩
          have n1_ : Asd (((((((w25.setCell ⟨gb420, 0, none⟩ (.int .i64 t412)).setCell ⟨gb420, 1, none⟩ (.int .i64 t413)).setCell ⟨gb420, 2, none⟩ (.int .i64 t414)).setCell ⟨gb420, 3, none⟩ (.int .i64 t415)).setCell ⟨gb420, 4, none⟩ (.string t416)).setCell ⟨gb420, 5, none⟩ (.slice Ao28 t417.length co28)).heap[gb409]? = some (.cells #[.int .i64 a0_0, .int .i64 a0_1, .int .i64 a0_2, .int .i64 a0_3, .string a0_4, .slice A0_5 l0_5.length c0_5] 24 (0, 0))) := ⟨by (with_reducible repeat (first | refine bDN ?_ _ | refine bDr ?_ | refine bAl ?_ _)); refine blk_far ?_ NB409_420.out _; (with_reducible repeat (first | refine bDN ?_ _ | refine bDr ?_ | refine bAl ?_ _)); refine blk_far ?_ NB409_420.out _; (with_reducible repeat (first | refine bDN ?_ _ | refine bDr ?_ | refine bAl ?_ _)); refine blk_far ?_ NB409_420.out _; (with_reducible repeat (first | refine bDN ?_ _ | refine bDr ?_ | refine bAl ?_ _)); refine blk_far ?_ NB409_420.out _; (with_reducible repeat (first | refine bDN ?_ _ | refine bDr ?_ | refine bAl ?_ _)); refine blk_far ?_ NB409_420.out _; (with_reducible repeat (first | refine bDN ?_ _ | refine bDr ?_ | refine bAl ?_ _)); refine blk_far ?_ NB409_420.out _; (with_reducible repeat (first | refine bDN ?_ _ | refine bDr ?_ | refine bAl ?_ _)); exact BK409.out⟩
          have n2_ : Asd (((((((w25.setCell ⟨gb420, 0, none⟩ (.int .i64 t412)).setCell ⟨gb420, 1, none⟩ (.int .i64 t413)).setCell ⟨gb420, 2, none⟩ (.int .i64 t414)).setCell ⟨gb420, 3, none⟩ (.int .i64 t415)).setCell ⟨gb420, 4, none⟩ (.string t416)).setCell ⟨gb420, 5, none⟩ (.slice Ao28 t417.length co28)).heap[gb420]? = some (.cells #[.int .i64 t412, .int .i64 t413, .int .i64 t414, .int .i64 t415, .string t416, .slice Ao28 t417.length co28] 24 (0, 0))) := ⟨by (with_reducible repeat (first | refine bDN ?_ _ | refine bDr ?_ | refine bAl ?_ _)); refine blk_put (cs := #[.int .i64 t412, .int .i64 t413, .int .i64 t414, .int .i64 t415, .string t416, .slice none 0 0]) ?_ 5 _ rfl; (with_reducible repeat (first | refine bDN ?_ _ | refine bDr ?_ | refine bAl ?_ _)); refine blk_put (cs := #[.int .i64 t412, .int .i64 t413, .int .i64 t414, .int .i64 t415, .string (⟨#[]⟩ : ByteArray), .slice none 0 0]) ?_ 4 _ rfl; (with_reducible repeat (first | refine bDN ?_ _ | refine bDr ?_ | refine bAl ?_ _)); refine blk_put (cs := #[.int .i64 t412, .int .i64 t413, .int .i64 t414, .int .i64 0, .string (⟨#[]⟩ : ByteArray), .slice none 0 0]) ?_ 3 _ rfl; (with_reducible repeat (first | refine bDN ?_ _ | refine bDr ?_ | refine bAl ?_ _)); refine blk_put (cs := #[.int .i64 t412, .int .i64 t413, .int .i64 0, .int .i64 0, .string (⟨#[]⟩ : ByteArray), .slice none 0 0]) ?_ 2 _ rfl; (with_reducible repeat (first | refine bDN ?_ _ | refine bDr ?_ | refine bAl ?_ _)); refine blk_put (cs := #[.int .i64 t412, .int .i64 0, .int .i64 0, .int .i64 0, .string (⟨#[]⟩ : ByteArray), .slice none 0 0]) ?_ 1 _ rfl; (with_reducible repeat (first | refine bDN ?_ _ | refine bDr ?_ | refine bAl ?_ _)); refine blk_put (cs := #[.int .i64 0, .int .i64 0, .int .i64 0, .int .i64 0, .string (⟨#[]⟩ : ByteArray), .slice none 0 0]) ?_ 0 _ rfl; (with_reducible repeat (first | refine bDN ?_ _ | refine bDr ?_ | refine bAl ?_ _)); exact BK420.out⟩
          have n3_ : Asd (Below w.heap.size w ((((((w25.setCell ⟨gb420, 0, none⟩ (.int .i64 t412)).setCell ⟨gb420, 1, none⟩ (.int .i64 t413)).setCell ⟨gb420, 2, none⟩ (.int .i64 t414)).setCell ⟨gb420, 3, none⟩ (.int .i64 t415)).setCell ⟨gb420, 4, none⟩ (.string t416)).setCell ⟨gb420, 5, none⟩ (.slice Ao28 t417.length co28))) := ⟨by repeat (first | (with_reducible first | exact HB.out | apply wAl | apply pDN | apply wDr | refine wSt ?_ GE409.out | refine wSt ?_ GE420.out) | exact HB.out)⟩
          (try clear HO419)
          (try clear BK409)
          (try clear BK420)
          (try clear HB)
          generalize ((((((w25.setCell ⟨gb420, 0, none⟩ (.int .i64 t412)).setCell ⟨gb420, 1, none⟩ (.int .i64 t413)).setCell ⟨gb420, 2, none⟩ (.int .i64 t414)).setCell ⟨gb420, 3, none⟩ (.int .i64 t415)).setCell ⟨gb420, 4, none⟩ (.string t416)).setCell ⟨gb420, 5, none⟩ (.slice Ao28 t417.length co28)) = w29 at n0_ n1_ n2_ n3_ ⊢
          have HO419 := n0_
          have BK409 := n1_
          have BK420 := n2_
          have HB := n3_
          clear n0_ n1_ n2_ n3_
          have n0_ := Asd.mk (Kd.V_drew HO419.out)
          have n1_ := Asd.mk (bDr BK409.out)
          have n2_ := Asd.mk (bDr BK420.out)
          have n3_ := Asd.mk (wDr HB.out)
          clear HO419
          clear BK409
          clear BK420
          clear HB
          have HO419 := n0_
          have BK409 := n1_
          have BK420 := n2_
          have HB := n3_
          clear n0_ n1_ n2_ n3_
          refine start_ (n := 21) (S := fun w' => w'.cell? ⟨gb420, 0, none⟩ = some (.int .i64 t412) ∧ w'.cell? ⟨gb420, 1, none⟩ = some (.int .i64 t413) ∧ w'.cell? ⟨gb420, 2, none⟩ = some (.int .i64 t414) ∧ w'.cell? ⟨gb420, 3, none⟩ = some (.int .i64 t415) ∧ w'.cell? ⟨gb420, 4, none⟩ = some (.string t416) ∧ w'.cell? ⟨gb420, 5, none⟩ = some (.slice Ao28 t417.length co28) ∧ w'.cell? ⟨gb409, 0, none⟩ = some (.int .i64 a0_0) ∧ w'.cell? ⟨gb409, 1, none⟩ = some (.int .i64 a0_1) ∧ w'.cell? ⟨gb409, 2, none⟩ = some (.int .i64 a0_2) ∧ w'.cell? ⟨gb409, 3, none⟩ = some (.int .i64 a0_3) ∧ w'.cell? ⟨gb409, 4, none⟩ = some (.string a0_4) ∧ w'.cell? ⟨gb409, 5, none⟩ = some (.slice A0_5 l0_5.length c0_5)) (ds := []) #[false, false, false, false, false, false, false, false, false, false, false, false, false, false, false, false, false, false, false, false, false] (by kernel_rfl) rfl rfl ⟨(bCl BK420.out 0).trans rfl, (bCl BK420.out 1).trans rfl, (bCl BK420.out 2).trans rfl, (bCl BK420.out 3).trans rfl, (bCl BK420.out 4).trans rfl, (bCl BK420.out 5).trans rfl, (bCl BK409.out 0).trans rfl, (bCl BK409.out 1).trans rfl, (bCl BK409.out 2).trans rfl, (bCl BK409.out 3).trans rfl, (bCl BK409.out 4).trans rfl, (bCl BK409.out 5).trans rfl⟩ (fun hHeld => ?_); refine with_tabW l20SimpFolds.tab4 l20SimpFolds.bits4 (fun HT_ HW_ => ?_)
          generalize w29.drew = w30 at HO419 BK409 BK420 HB hHeld ⊢
          refine take_ (i := 0) (N := some 10) (v := ?_) (a' := ?_) #[true, false, false, false, false, false, false, false, false, false, false, false, false, false, false, false, false, false, false, false, false] rfl rfl (take_ofW HT_.out HW_.out (by kernel_rfl)) (fun _ _ _ h => h) (Or.inl ⟨by rfl, ?_⟩) hHeld ?_ ?_
          rotate_left
          · rintro w' ⟨s0, s1, s2, s3, s4, s5, s6, s7, s8, s9, s10, s11⟩
            go_simp
            with_reducible rfl
          rotate_left
          · simp only [Act.put, List.setIfInBounds_toArray, List.set_cons_zero, List.set_cons_succ, i64_w, i32_w]
            rfl
          refine take_ (i := 1) (N := some 11) (v := ?_) (a' := ?_) #[true, true, false, false, false, false, false, false, false, false, false, false, false, false, false, false, false, false, false, false, false] rfl rfl (take_ofW HT_.out HW_.out (by kernel_rfl)) (fun _ _ _ h => h) (Or.inl ⟨by rfl, ?_⟩) hHeld ?_ ?_
          rotate_left
          · rintro w' ⟨s0, s1, s2, s3, s4, s5, s6, s7, s8, s9, s10, s11⟩
            go_simp
            with_reducible rfl
          rotate_left
          · simp only [Act.put, List.setIfInBounds_toArray, List.set_cons_zero, List.set_cons_succ, i64_w, i32_w]
            rfl
          refine one_ (i := 2) (N := some 12) #[true, true, true, false, false, false, false, false, false, false, false, false, false, false, false, false, false, false, false, false, false] rfl rfl (one_of HT_.out (by kernel_rfl)) (by decide) (fun K hK => ?_)
          refine goes_ Try.func9 (by kernel_rfl) rfl #[.agg #[.int .i64 a0_0, .int .i64 a0_1, .int .i64 a0_2, .int .i64 a0_3, .string a0_4, .slice A0_5 l0_5.length c0_5]] (by rfl) rfl rfl (by (try simp only [List.map_toArray, List.map_cons, List.map_nil]); first | done | rfl | (simp only [List.length_drop, List.length_take]; rfl)) ?_
          with_reducible refine (r20Fold.calls k a0_0 a0_1 a0_2 a0_3 a0_4 (fun k_ => k_ < w.heap.size) _ _ l0_5 t421 t422 t423 t424 t425 t426 _ ?side1 A10.out).mono ?_
          (case side1 => exact Kd.V_mk HC0_5.out (Kd.F_below (Kd.C_F k24_heap HR0_5.out) (by repeat (first | (with_reducible first | exact HB.out | apply wAl | apply pDN | apply wDr | refine wSt ?_ GE409.out | refine wSt ?_ GE420.out) | exact HB.out))))
          rintro e w31 ⟨v427, rfl, ho0, hb⟩
          refine ⟨_, rfl, ?_⟩
          have n0_ := Asd.mk (Kd.V_below (by (with_reducible repeat (first | apply Kd.V_alloc | apply Kd.V_drewN | apply Kd.V_drew)); exact HO419.out) hb)
          have n1_ := Asd.mk (Kd.V_lower (Kd.V_mono (ok' := fun k_ => k_ ≠ gb409 ∧ k_ ≠ gb420) ho0 (fun k_ hk_ => ⟨Or.elim hk_ (fun hs_ => fun e_ => Nat.not_le.2 hs_ (by rw [e_]; exact GW409.out)) (fun hn_ => (Kd.freshB (g := gb409) (o := .cells #[.int .i64 a0_0, .int .i64 a0_1, .int .i64 a0_2, .int .i64 a0_3, .string a0_4, .slice A0_5 l0_5.length c0_5] 24 (0, 0)) (by (with_reducible repeat (first | refine bDN ?_ _ | refine bDr ?_ | refine bAl ?_ _)); exact BK409.out) k_ hn_)), Or.elim hk_ (fun hs_ => fun e_ => Nat.not_le.2 hs_ (by rw [e_]; exact GW420.out)) (fun hn_ => (Kd.freshB (g := gb420) (o := .cells #[.int .i64 t412, .int .i64 t413, .int .i64 t414, .int .i64 t415, .string t416, .slice Ao28 t417.length co28] 24 (0, 0)) (by (with_reducible repeat (first | refine bDN ?_ _ | refine bDr ?_ | refine bAl ?_ _)); exact BK420.out) k_ hn_))⟩)) (wSz (by repeat (first | (with_reducible first | exact HB.out | apply wAl | apply pDN | apply wDr | refine wSt ?_ GE409.out | refine wSt ?_ GE420.out) | exact HB.out))))
          have n2_ := Asd.mk (blk_below (g := gb409) (o := .cells #[.int .i64 a0_0, .int .i64 a0_1, .int .i64 a0_2, .int .i64 a0_3, .string a0_4, .slice A0_5 l0_5.length c0_5] 24 (0, 0)) (by (with_reducible repeat (first | refine bDN ?_ _ | refine bDr ?_ | refine bAl ?_ _)); exact BK409.out) hb)
          have n3_ := Asd.mk (blk_below (g := gb420) (o := .cells #[.int .i64 t412, .int .i64 t413, .int .i64 t414, .int .i64 t415, .string t416, .slice Ao28 t417.length co28] 24 (0, 0)) (by (with_reducible repeat (first | refine bDN ?_ _ | refine bDr ?_ | refine bAl ?_ _)); exact BK420.out) hb)
          have n4_ := Asd.mk (wSp (by repeat (first | (with_reducible first | exact HB.out | apply wAl | apply pDN | apply wDr | refine wSt ?_ GE409.out | refine wSt ?_ GE420.out) | exact HB.out)) hb)
          clear HO419
          clear BK409
          clear BK420
          clear HB
          have HO419 := n0_
          have HO428 := n1_
          have BK409 := n2_
          have BK420 := n3_
          have HB := n4_
          clear n0_ n1_ n2_ n3_ n4_
          (try clear hb)
          (try clear hb2)
          (try clear hk)
          (try clear hi)
          (try clear ho0)
          obtain ⟨Ao32, co32, eo32⟩ := Kd.V_slice HO428.out
          (first | subst eo32 | (injection eo32 with f1_ f2_ f3_; have f4_ := f1_.symm; have f5_ := f3_.symm; clear f1_ f2_ f3_; subst f4_; subst f5_))
          refine hK.out _ _ ⟨(bCl BK420.out 0).trans rfl, (bCl BK420.out 1).trans rfl, (bCl BK420.out 2).trans rfl, (bCl BK420.out 3).trans rfl, (bCl BK420.out 4).trans rfl, (bCl BK420.out 5).trans rfl, (bCl BK409.out 0).trans rfl, (bCl BK409.out 1).trans rfl, (bCl BK409.out 2).trans rfl, (bCl BK409.out 3).trans rfl, (bCl BK409.out 4).trans rfl, (bCl BK409.out 5).trans rfl⟩ (fun hHeld => ?_)
          clear hK K
          refine norm_ (a' := ?_) ?_ ?_
          rotate_left
          · show Act.put _ (some 12) _ = _
            simp only [Act.put, List.setIfInBounds_toArray, List.set_cons_zero, List.set_cons_succ, i64_w, i32_w]
            rfl
          refine one_ (i := 3) (N := some 13) #[true, true, true, true, false, false, false, false, false, false, false, false, false, false, false, false, false, false, false, false, false] rfl rfl (one_of HT_.out (by kernel_rfl)) (by decide) (fun K hK => ?_)
          refine goes_ Try.func8 (by kernel_rfl) rfl #[.agg #[.int .i64 t412, .int .i64 t413, .int .i64 t414, .int .i64 t415, .string t416, .slice Ao28 t417.length co28], .agg #[.int .i64 t421, .int .i64 t422, .int .i64 t423, .int .i64 t424, .string t425, .slice Ao32 t426.length co32]] (by rfl) rfl rfl (by (try simp only [List.map_toArray, List.map_cons, List.map_nil]); first | done | rfl | (simp only [List.length_drop, List.length_take]; rfl)) ?_
          with_reducible refine (r06Same.calls k t412 t413 t414 t415 t416 _ _ t417 t421 t422 t423 t424 t425 _ _ t426 true _ ?side1 ?side2 ?side3 ?side4 ⟨rfl⟩ A11.out).mono ?_
          (case side1 => repeat (first | exact (Kd.V_reads' HO419.out).2.2 | (with_reducible refine Kd.C_alloc ?_ _) | (with_reducible refine Kd.C_drewN ?_ _) | (with_reducible refine Kd.C_drew ?_)))
          (case side2 => exact (Kd.V_reads' HO419.out).2.1)
          (case side3 => repeat (first | exact (Kd.V_reads' HO428.out).2.2 | (with_reducible refine Kd.C_alloc ?_ _) | (with_reducible refine Kd.C_drewN ?_ _) | (with_reducible refine Kd.C_drew ?_)))
          (case side4 => exact (Kd.V_reads' HO428.out).2.1)
          rintro e w33 ⟨rfl, hb⟩
          refine ⟨_, rfl, ?_⟩
          have n0_ := Asd.mk (Kd.V_below (by (with_reducible repeat (first | apply Kd.V_alloc | apply Kd.V_drewN | apply Kd.V_drew)); exact HO419.out) hb)
          have n1_ := Asd.mk (Kd.V_below (by (with_reducible repeat (first | apply Kd.V_alloc | apply Kd.V_drewN | apply Kd.V_drew)); exact HO428.out) hb)
          have n2_ := Asd.mk (blk_below (g := gb409) (o := .cells #[.int .i64 a0_0, .int .i64 a0_1, .int .i64 a0_2, .int .i64 a0_3, .string a0_4, .slice A0_5 l0_5.length c0_5] 24 (0, 0)) (by (with_reducible repeat (first | refine bDN ?_ _ | refine bDr ?_ | refine bAl ?_ _)); exact BK409.out) hb)
          have n3_ := Asd.mk (blk_below (g := gb420) (o := .cells #[.int .i64 t412, .int .i64 t413, .int .i64 t414, .int .i64 t415, .string t416, .slice Ao28 t417.length co28] 24 (0, 0)) (by (with_reducible repeat (first | refine bDN ?_ _ | refine bDr ?_ | refine bAl ?_ _)); exact BK420.out) hb)
          have n4_ := Asd.mk (wSp (by repeat (first | (with_reducible first | exact HB.out | apply wAl | apply pDN | apply wDr | refine wSt ?_ GE409.out | refine wSt ?_ GE420.out) | exact HB.out)) hb)
          clear HO419
          clear HO428
          clear BK409
          clear BK420
          clear HB
          have HO419 := n0_
          have HO428 := n1_
          have BK409 := n2_
          have BK420 := n3_
          have HB := n4_
          clear n0_ n1_ n2_ n3_ n4_
          (try clear hb)
          (try clear hb2)
          (try clear hk)
          (try clear hi)
          refine hK.out _ _ ⟨(bCl BK420.out 0).trans rfl, (bCl BK420.out 1).trans rfl, (bCl BK420.out 2).trans rfl, (bCl BK420.out 3).trans rfl, (bCl BK420.out 4).trans rfl, (bCl BK420.out 5).trans rfl, (bCl BK409.out 0).trans rfl, (bCl BK409.out 1).trans rfl, (bCl BK409.out 2).trans rfl, (bCl BK409.out 3).trans rfl, (bCl BK409.out 4).trans rfl, (bCl BK409.out 5).trans rfl⟩ (fun hHeld => ?_)
          clear hK K
          refine norm_ (a' := ?_) ?_ ?_
          rotate_left
          · show Act.put _ (some 13) _ = _
            simp only [Act.put, List.setIfInBounds_toArray, List.set_cons_zero, List.set_cons_succ, i64_w, i32_w]
            rfl
          refine pure_ (i := 4) (N := some 14) (v := ?_) (a' := ?_) #[true, true, true, true, true, false, false, false, false, false, false, false, false, false, false, false, false, false, false, false, false] rfl rfl (any_of HT_.out (by kernel_rfl)) (fun _ _ _ h => h) (Or.inl ⟨by rfl, ?_⟩) ?_ ?_
          rotate_left
          · intro w'
            go_simp
            with_reducible rfl
          rotate_left
          · simp only [Act.put, List.setIfInBounds_toArray, List.set_cons_zero, List.set_cons_succ, i64_w, i32_w]
            rfl
          refine take_ (i := 5) (N := some 15) (v := ?_) (a' := ?_) #[true, true, true, true, true, true, false, false, false, false, false, false, false, false, false, false, false, false, false, false, false] rfl rfl (take_ofW HT_.out HW_.out (by kernel_rfl)) (fun _ _ _ h => h) (Or.inl ⟨by rfl, ?_⟩) hHeld ?_ ?_
          rotate_left
          · rintro w' ⟨s0, s1, s2, s3, s4, s5, s6, s7, s8, s9, s10, s11⟩
            go_simp
            with_reducible rfl
          rotate_left
          · simp only [Act.put, List.setIfInBounds_toArray, List.set_cons_zero, List.set_cons_succ, i64_w, i32_w]
            rfl
          refine take_ (i := 7) (N := some 17) (v := ?_) (a' := ?_) #[true, true, true, true, true, true, false, true, false, false, false, false, false, false, false, false, false, false, false, false, false] rfl rfl (take_ofW HT_.out HW_.out (by kernel_rfl)) (fun _ _ _ h => h) (Or.inl ⟨by rfl, ?_⟩) hHeld ?_ ?_
          rotate_left
          · rintro w' ⟨s0, s1, s2, s3, s4, s5, s6, s7, s8, s9, s10, s11⟩
            go_simp
            with_reducible rfl
          rotate_left
          · simp only [Act.put, List.setIfInBounds_toArray, List.set_cons_zero, List.set_cons_succ, i64_w, i32_w]
            rfl
          refine one_ (i := 6) (N := some 16) #[true, true, true, true, true, true, true, true, false, false, false, false, false, false, false, false, false, false, false, false, false] rfl rfl (one_of HT_.out (by kernel_rfl)) (by decide) (fun K hK => ?_)
          refine goes_ Try.func10 (by kernel_rfl) rfl #[.agg #[.int .i64 t412, .int .i64 t413, .int .i64 t414, .int .i64 t415, .string t416, .slice Ao28 t417.length co28]] (by rfl) rfl rfl (by (try simp only [List.map_toArray, List.map_cons, List.map_nil]); first | done | rfl | (simp only [List.length_drop, List.length_take]; rfl)) ?_
          with_reducible refine (r06Size.calls k t412 t413 t414 t415 t416 _ _ t417 t430 _ ?side1 ?side2 A13.out).mono ?_
          (case side1 => repeat (first | exact (Kd.V_reads' HO419.out).2.2 | (with_reducible refine Kd.C_alloc ?_ _) | (with_reducible refine Kd.C_drewN ?_ _) | (with_reducible refine Kd.C_drew ?_)))
          (case side2 => exact (Kd.V_reads' HO419.out).2.1)
          rintro e w34 ⟨rfl, hb⟩
          refine ⟨_, rfl, ?_⟩
          have n0_ := Asd.mk (Kd.V_below (by (with_reducible repeat (first | apply Kd.V_alloc | apply Kd.V_drewN | apply Kd.V_drew)); exact HO419.out) hb)
          have n1_ := Asd.mk (Kd.V_below (by (with_reducible repeat (first | apply Kd.V_alloc | apply Kd.V_drewN | apply Kd.V_drew)); exact HO428.out) hb)
          have n2_ := Asd.mk (blk_below (g := gb409) (o := .cells #[.int .i64 a0_0, .int .i64 a0_1, .int .i64 a0_2, .int .i64 a0_3, .string a0_4, .slice A0_5 l0_5.length c0_5] 24 (0, 0)) (by (with_reducible repeat (first | refine bDN ?_ _ | refine bDr ?_ | refine bAl ?_ _)); exact BK409.out) hb)
          have n3_ := Asd.mk (blk_below (g := gb420) (o := .cells #[.int .i64 t412, .int .i64 t413, .int .i64 t414, .int .i64 t415, .string t416, .slice Ao28 t417.length co28] 24 (0, 0)) (by (with_reducible repeat (first | refine bDN ?_ _ | refine bDr ?_ | refine bAl ?_ _)); exact BK420.out) hb)
          have n4_ := Asd.mk (wSp (by repeat (first | (with_reducible first | exact HB.out | apply wAl | apply pDN | apply wDr | refine wSt ?_ GE409.out | refine wSt ?_ GE420.out) | exact HB.out)) hb)
          clear HO419
          clear HO428
          clear BK409
          clear BK420
          clear HB
          have HO419 := n0_
          have HO428 := n1_
          have BK409 := n2_
          have BK420 := n3_
          have HB := n4_
          clear n0_ n1_ n2_ n3_ n4_
          (try clear hb)
          (try clear hb2)
          (try clear hk)
          (try clear hi)
          refine hK.out _ _ ⟨(bCl BK420.out 0).trans rfl, (bCl BK420.out 1).trans rfl, (bCl BK420.out 2).trans rfl, (bCl BK420.out 3).trans rfl, (bCl BK420.out 4).trans rfl, (bCl BK420.out 5).trans rfl, (bCl BK409.out 0).trans rfl, (bCl BK409.out 1).trans rfl, (bCl BK409.out 2).trans rfl, (bCl BK409.out 3).trans rfl, (bCl BK409.out 4).trans rfl, (bCl BK409.out 5).trans rfl⟩ (fun hHeld => ?_)
          clear hK K
          refine norm_ (a' := ?_) ?_ ?_
          rotate_left
          · show Act.put _ (some 16) _ = _
            simp only [Act.put, List.setIfInBounds_toArray, List.set_cons_zero, List.set_cons_succ, i64_w, i32_w]
            rfl
          refine one_ (i := 8) (N := some 18) #[true, true, true, true, true, true, true, true, true, false, false, false, false, false, false, false, false, false, false, false, false] rfl rfl (one_of HT_.out (by kernel_rfl)) (by decide) (fun K hK => ?_)
          refine goes_ Try.func10 (by kernel_rfl) rfl #[.agg #[.int .i64 a0_0, .int .i64 a0_1, .int .i64 a0_2, .int .i64 a0_3, .string a0_4, .slice A0_5 l0_5.length c0_5]] (by rfl) rfl rfl (by (try simp only [List.map_toArray, List.map_cons, List.map_nil]); first | done | rfl | (simp only [List.length_drop, List.length_take]; rfl)) ?_
          with_reducible refine (r06Size.calls k a0_0 a0_1 a0_2 a0_3 a0_4 _ _ l0_5 t431 _ ?side1 ?side2 A14.out).mono ?_
          (case side1 => repeat (first | exact (Kd.C_below HR0_5.out HB.out) | (with_reducible refine Kd.C_alloc ?_ _) | (with_reducible refine Kd.C_drewN ?_ _) | (with_reducible refine Kd.C_drew ?_)))
          (case side2 => exact HC0_5.out)
          rintro e w35 ⟨rfl, hb⟩
          refine ⟨_, rfl, ?_⟩
          have n0_ := Asd.mk (Kd.V_below (by (with_reducible repeat (first | apply Kd.V_alloc | apply Kd.V_drewN | apply Kd.V_drew)); exact HO419.out) hb)
          have n1_ := Asd.mk (Kd.V_below (by (with_reducible repeat (first | apply Kd.V_alloc | apply Kd.V_drewN | apply Kd.V_drew)); exact HO428.out) hb)
          have n2_ := Asd.mk (blk_below (g := gb409) (o := .cells #[.int .i64 a0_0, .int .i64 a0_1, .int .i64 a0_2, .int .i64 a0_3, .string a0_4, .slice A0_5 l0_5.length c0_5] 24 (0, 0)) (by (with_reducible repeat (first | refine bDN ?_ _ | refine bDr ?_ | refine bAl ?_ _)); exact BK409.out) hb)
          have n3_ := Asd.mk (blk_below (g := gb420) (o := .cells #[.int .i64 t412, .int .i64 t413, .int .i64 t414, .int .i64 t415, .string t416, .slice Ao28 t417.length co28] 24 (0, 0)) (by (with_reducible repeat (first | refine bDN ?_ _ | refine bDr ?_ | refine bAl ?_ _)); exact BK420.out) hb)
          have n4_ := Asd.mk (wSp (by repeat (first | (with_reducible first | exact HB.out | apply wAl | apply pDN | apply wDr | refine wSt ?_ GE409.out | refine wSt ?_ GE420.out) | exact HB.out)) hb)
          clear HO419
          clear HO428
          clear BK409
          clear BK420
          clear HB
          have HO419 := n0_
          have HO428 := n1_
          have BK409 := n2_
          have BK420 := n3_
          have HB := n4_
          clear n0_ n1_ n2_ n3_ n4_
          (try clear hb)
          (try clear hb2)
          (try clear hk)
          (try clear hi)
          refine hK.out _ _ ⟨(bCl BK420.out 0).trans rfl, (bCl BK420.out 1).trans rfl, (bCl BK420.out 2).trans rfl, (bCl BK420.out 3).trans rfl, (bCl BK420.out 4).trans rfl, (bCl BK420.out 5).trans rfl, (bCl BK409.out 0).trans rfl, (bCl BK409.out 1).trans rfl, (bCl BK409.out 2).trans rfl, (bCl BK409.out 3).trans rfl, (bCl BK409.out 4).trans rfl, (bCl BK409.out 5).trans rfl⟩ (fun hHeld => ?_)
          clear hK K
          refine norm_ (a' := ?_) ?_ ?_
          rotate_left
          · show Act.put _ (some 18) _ = _
            simp only [Act.put, List.setIfInBounds_toArray, List.set_cons_zero, List.set_cons_succ, i64_w, i32_w]
            rfl
          refine pure_ (i := 9) (N := some 19) (v := ?_) (a' := ?_) #[true, true, true, true, true, true, true, true, true, true, false, false, false, false, false, false, false, false, false, false, false] rfl rfl (any_of HT_.out (by kernel_rfl)) (fun _ _ _ h => h) (Or.inl ⟨by rfl, ?_⟩) ?_ ?_
          rotate_left
          · intro w'
            go_simp
            with_reducible rfl
          rotate_left
          · simp only [Act.put, List.setIfInBounds_toArray, List.set_cons_zero, List.set_cons_succ, i64_w, i32_w]
            rfl
          refine pure_ (i := 10) (N := some 20) (v := ?_) (a' := ?_) #[true, true, true, true, true, true, true, true, true, true, true, false, false, false, false, false, false, false, false, false, false] rfl rfl (any_of HT_.out (by kernel_rfl)) (fun _ _ _ h => h) (Or.inl ⟨by rfl, ?_⟩) ?_ ?_
          rotate_left
          · intro w'
            go_simp
            with_reducible rfl
          rotate_left
          · simp only [Act.put, List.setIfInBounds_toArray, List.set_cons_zero, List.set_cons_succ, i64_w, i32_w]
            rfl
          refine pure_ (i := 11) (N := some 21) (v := ?_) (a' := ?_) #[true, true, true, true, true, true, true, true, true, true, true, true, false, false, false, false, false, false, false, false, false] rfl rfl (any_of HT_.out (by kernel_rfl)) (fun _ _ _ h => h) (Or.inl ⟨by rfl, ?_⟩) ?_ ?_
          rotate_left
          · intro w'
            go_simp
            with_reducible rfl
          rotate_left
          · simp only [Act.put, List.setIfInBounds_toArray, List.set_cons_zero, List.set_cons_succ, i64_w, i32_w]
            rfl
          refine take_ (i := 12) (N := some 22) (v := ?_) (a' := ?_) #[true, true, true, true, true, true, true, true, true, true, true, true, true, false, false, false, false, false, false, false, false] rfl rfl (take_ofW HT_.out HW_.out (by kernel_rfl)) (fun _ _ _ h => h) (Or.inl ⟨by rfl, ?_⟩) hHeld ?_ ?_
          rotate_left
          · rintro w' ⟨s0, s1, s2, s3, s4, s5, s6, s7, s8, s9, s10, s11⟩
            go_simp
            with_reducible rfl
          rotate_left
          · simp only [Act.put, List.setIfInBounds_toArray, List.set_cons_zero, List.set_cons_succ, i64_w, i32_w]
            rfl
          refine take_ (i := 14) (N := some 24) (v := ?_) (a' := ?_) #[true, true, true, true, true, true, true, true, true, true, true, true, true, false, true, false, false, false, false, false, false] rfl rfl (take_ofW HT_.out HW_.out (by kernel_rfl)) (fun _ _ _ h => h) (Or.inl ⟨by rfl, ?_⟩) hHeld ?_ ?_
          rotate_left
          · rintro w' ⟨s0, s1, s2, s3, s4, s5, s6, s7, s8, s9, s10, s11⟩
            go_simp
            with_reducible rfl
          rotate_left
          · simp only [Act.put, List.setIfInBounds_toArray, List.set_cons_zero, List.set_cons_succ, i64_w, i32_w]
            rfl
          refine one_ (i := 13) (N := some 23) #[true, true, true, true, true, true, true, true, true, true, true, true, true, true, true, false, false, false, false, false, false] rfl rfl (one_of HT_.out (by kernel_rfl)) (by decide) (fun K hK => ?_)
          refine goes_ Try.func7 (by kernel_rfl) rfl #[.agg #[.int .i64 t412, .int .i64 t413, .int .i64 t414, .int .i64 t415, .string t416, .slice Ao28 t417.length co28]] (by rfl) rfl rfl (by (try simp only [List.map_toArray, List.map_cons, List.map_nil]); first | done | rfl | (simp only [List.length_drop, List.length_take]; rfl)) ?_
          with_reducible refine (simp_Fold.calls k t412 t413 t414 t415 t416 (fun k_ => (k_ ≠ gb409 ∧ k_ ≠ gb420)) _ _ t417 t432 t433 t434 t435 t436 t437 _ ?side1 A16.out).mono ?_
          (case side1 => exact HO419.out)
          rintro e w36 ⟨v438, rfl, ho0, hb⟩
          refine ⟨_, rfl, ?_⟩
          have n0_ := Asd.mk (Kd.V_below (by (with_reducible repeat (first | apply Kd.V_alloc | apply Kd.V_drewN | apply Kd.V_drew)); exact HO419.out) hb)
          have n1_ := Asd.mk (Kd.V_below (by (with_reducible repeat (first | apply Kd.V_alloc | apply Kd.V_drewN | apply Kd.V_drew)); exact HO428.out) hb)
          have n2_ := Asd.mk (Kd.V_lower (Kd.V_mono (ok' := fun k_ => k_ ≠ gb409 ∧ k_ ≠ gb420) ho0 (fun k_ hk_ => ⟨Or.elim hk_ (fun hs_ => hs_.1) (fun hn_ => (Kd.freshB (g := gb409) (o := .cells #[.int .i64 a0_0, .int .i64 a0_1, .int .i64 a0_2, .int .i64 a0_3, .string a0_4, .slice A0_5 l0_5.length c0_5] 24 (0, 0)) (by (with_reducible repeat (first | refine bDN ?_ _ | refine bDr ?_ | refine bAl ?_ _)); exact BK409.out) k_ hn_)), Or.elim hk_ (fun hs_ => hs_.2) (fun hn_ => (Kd.freshB (g := gb420) (o := .cells #[.int .i64 t412, .int .i64 t413, .int .i64 t414, .int .i64 t415, .string t416, .slice Ao28 t417.length co28] 24 (0, 0)) (by (with_reducible repeat (first | refine bDN ?_ _ | refine bDr ?_ | refine bAl ?_ _)); exact BK420.out) k_ hn_))⟩)) (wSz (by repeat (first | (with_reducible first | exact HB.out | apply wAl | apply pDN | apply wDr | refine wSt ?_ GE409.out | refine wSt ?_ GE420.out) | exact HB.out))))
          have n3_ := Asd.mk (blk_below (g := gb409) (o := .cells #[.int .i64 a0_0, .int .i64 a0_1, .int .i64 a0_2, .int .i64 a0_3, .string a0_4, .slice A0_5 l0_5.length c0_5] 24 (0, 0)) (by (with_reducible repeat (first | refine bDN ?_ _ | refine bDr ?_ | refine bAl ?_ _)); exact BK409.out) hb)
          have n4_ := Asd.mk (blk_below (g := gb420) (o := .cells #[.int .i64 t412, .int .i64 t413, .int .i64 t414, .int .i64 t415, .string t416, .slice Ao28 t417.length co28] 24 (0, 0)) (by (with_reducible repeat (first | refine bDN ?_ _ | refine bDr ?_ | refine bAl ?_ _)); exact BK420.out) hb)
          have n5_ := Asd.mk (wSp (by repeat (first | (with_reducible first | exact HB.out | apply wAl | apply pDN | apply wDr | refine wSt ?_ GE409.out | refine wSt ?_ GE420.out) | exact HB.out)) hb)
          clear HO419
          clear HO428
          clear BK409
          clear BK420
          clear HB
          have HO419 := n0_
          have HO428 := n1_
          have HO439 := n2_
          have BK409 := n3_
          have BK420 := n4_
          have HB := n5_
          clear n0_ n1_ n2_ n3_ n4_ n5_
          (try clear hb)
          (try clear hb2)
          (try clear hk)
          (try clear hi)
          (try clear ho0)
          obtain ⟨Ao37, co37, eo37⟩ := Kd.V_slice HO439.out
          (first | subst eo37 | (injection eo37 with f1_ f2_ f3_; have f4_ := f1_.symm; have f5_ := f3_.symm; clear f1_ f2_ f3_; subst f4_; subst f5_))
          refine hK.out _ _ ⟨(bCl BK420.out 0).trans rfl, (bCl BK420.out 1).trans rfl, (bCl BK420.out 2).trans rfl, (bCl BK420.out 3).trans rfl, (bCl BK420.out 4).trans rfl, (bCl BK420.out 5).trans rfl, (bCl BK409.out 0).trans rfl, (bCl BK409.out 1).trans rfl, (bCl BK409.out 2).trans rfl, (bCl BK409.out 3).trans rfl, (bCl BK409.out 4).trans rfl, (bCl BK409.out 5).trans rfl⟩ (fun hHeld => ?_)
          clear hK K
          refine norm_ (a' := ?_) ?_ ?_
          rotate_left
          · show Act.put _ (some 23) _ = _
            simp only [Act.put, List.setIfInBounds_toArray, List.set_cons_zero, List.set_cons_succ, i64_w, i32_w]
            rfl
          refine one_ (i := 15) (N := some 25) #[true, true, true, true, true, true, true, true, true, true, true, true, true, true, true, true, false, false, false, false, false] rfl rfl (one_of HT_.out (by kernel_rfl)) (by decide) (fun K hK => ?_)
          refine goes_ Try.func8 (by kernel_rfl) rfl #[.agg #[.int .i64 t432, .int .i64 t433, .int .i64 t434, .int .i64 t435, .string t436, .slice Ao37 t437.length co37], .agg #[.int .i64 t412, .int .i64 t413, .int .i64 t414, .int .i64 t415, .string t416, .slice Ao28 t417.length co28]] (by rfl) rfl rfl (by (try simp only [List.map_toArray, List.map_cons, List.map_nil]); first | done | rfl | (simp only [List.length_drop, List.length_take]; rfl)) ?_
          with_reducible refine (r06Same.calls k t432 t433 t434 t435 t436 _ _ t437 t412 t413 t414 t415 t416 _ _ t417 true _ ?side1 ?side2 ?side3 ?side4 ⟨rfl⟩ A17.out).mono ?_
          (case side1 => repeat (first | exact (Kd.V_reads' HO439.out).2.2 | (with_reducible refine Kd.C_alloc ?_ _) | (with_reducible refine Kd.C_drewN ?_ _) | (with_reducible refine Kd.C_drew ?_)))
          (case side2 => exact (Kd.V_reads' HO439.out).2.1)
          (case side3 => repeat (first | exact (Kd.V_reads' HO419.out).2.2 | (with_reducible refine Kd.C_alloc ?_ _) | (with_reducible refine Kd.C_drewN ?_ _) | (with_reducible refine Kd.C_drew ?_)))
          (case side4 => exact (Kd.V_reads' HO419.out).2.1)
          rintro e w38 ⟨rfl, hb⟩
          refine ⟨_, rfl, ?_⟩
          have n0_ := Asd.mk (Kd.V_below (by (with_reducible repeat (first | apply Kd.V_alloc | apply Kd.V_drewN | apply Kd.V_drew)); exact HO419.out) hb)
          have n1_ := Asd.mk (Kd.V_below (by (with_reducible repeat (first | apply Kd.V_alloc | apply Kd.V_drewN | apply Kd.V_drew)); exact HO428.out) hb)
          have n2_ := Asd.mk (Kd.V_below (by (with_reducible repeat (first | apply Kd.V_alloc | apply Kd.V_drewN | apply Kd.V_drew)); exact HO439.out) hb)
          have n3_ := Asd.mk (blk_below (g := gb409) (o := .cells #[.int .i64 a0_0, .int .i64 a0_1, .int .i64 a0_2, .int .i64 a0_3, .string a0_4, .slice A0_5 l0_5.length c0_5] 24 (0, 0)) (by (with_reducible repeat (first | refine bDN ?_ _ | refine bDr ?_ | refine bAl ?_ _)); exact BK409.out) hb)
          have n4_ := Asd.mk (blk_below (g := gb420) (o := .cells #[.int .i64 t412, .int .i64 t413, .int .i64 t414, .int .i64 t415, .string t416, .slice Ao28 t417.length co28] 24 (0, 0)) (by (with_reducible repeat (first | refine bDN ?_ _ | refine bDr ?_ | refine bAl ?_ _)); exact BK420.out) hb)
          have n5_ := Asd.mk (wSp (by repeat (first | (with_reducible first | exact HB.out | apply wAl | apply pDN | apply wDr | refine wSt ?_ GE409.out | refine wSt ?_ GE420.out) | exact HB.out)) hb)
          clear HO419
          clear HO428
          clear HO439
          clear BK409
          clear BK420
          clear HB
          have HO419 := n0_
          have HO428 := n1_
          have HO439 := n2_
          have BK409 := n3_
          have BK420 := n4_
          have HB := n5_
          clear n0_ n1_ n2_ n3_ n4_ n5_
          (try clear hb)
          (try clear hb2)
          (try clear hk)
          (try clear hi)
          refine hK.out _ _ ⟨(bCl BK420.out 0).trans rfl, (bCl BK420.out 1).trans rfl, (bCl BK420.out 2).trans rfl, (bCl BK420.out 3).trans rfl, (bCl BK420.out 4).trans rfl, (bCl BK420.out 5).trans rfl, (bCl BK409.out 0).trans rfl, (bCl BK409.out 1).trans rfl, (bCl BK409.out 2).trans rfl, (bCl BK409.out 3).trans rfl, (bCl BK409.out 4).trans rfl, (bCl BK409.out 5).trans rfl⟩ (fun hHeld => ?_)
          clear hK K
          refine norm_ (a' := ?_) ?_ ?_
          rotate_left
          · show Act.put _ (some 25) _ = _
            simp only [Act.put, List.setIfInBounds_toArray, List.set_cons_zero, List.set_cons_succ, i64_w, i32_w]
            rfl
          refine pure_ (i := 16) (N := some 26) (v := ?_) (a' := ?_) #[true, true, true, true, true, true, true, true, true, true, true, true, true, true, true, true, true, false, false, false, false] rfl rfl (any_of HT_.out (by kernel_rfl)) (fun _ _ _ h => h) (Or.inl ⟨by rfl, ?_⟩) ?_ ?_
          rotate_left
          · intro w'
            go_simp
            with_reducible rfl
          rotate_left
          · simp only [Act.put, List.setIfInBounds_toArray, List.set_cons_zero, List.set_cons_succ, i64_w, i32_w]
            rfl
          refine pure_ (i := 17) (N := some 27) (v := ?_) (a' := ?_) #[true, true, true, true, true, true, true, true, true, true, true, true, true, true, true, true, true, true, false, false, false] rfl rfl (any_of HT_.out (by kernel_rfl)) (fun _ _ _ h => h) (Or.inl ⟨by rfl, ?_⟩) ?_ ?_
          rotate_left
          · intro w'
            go_simp
            with_reducible rfl
          rotate_left
          · simp only [Act.put, List.setIfInBounds_toArray, List.set_cons_zero, List.set_cons_succ, i64_w, i32_w]
            rfl
          refine one_ (i := 18) (N := some 28) #[true, true, true, true, true, true, true, true, true, true, true, true, true, true, true, true, true, true, true, false, false] rfl rfl (one_of HT_.out (by kernel_rfl)) (by decide) (fun K hK => ?_)
          refine goes_ Try.func6 (by kernel_rfl) rfl #[] (by rfl) rfl rfl (by (try simp only [List.map_toArray, List.map_cons, List.map_nil]); first | done | rfl | (simp only [List.length_drop, List.length_take]; rfl)) ?_
          with_reducible refine (l20lives.calls  t441 _ A19.out).mono ?_
          rintro e w39 ⟨rfl, hb⟩
          refine ⟨_, rfl, ?_⟩
          have n0_ := Asd.mk (Kd.V_below (by (with_reducible repeat (first | apply Kd.V_alloc | apply Kd.V_drewN | apply Kd.V_drew)); exact HO419.out) hb)
          have n1_ := Asd.mk (Kd.V_below (by (with_reducible repeat (first | apply Kd.V_alloc | apply Kd.V_drewN | apply Kd.V_drew)); exact HO428.out) hb)
          have n2_ := Asd.mk (Kd.V_below (by (with_reducible repeat (first | apply Kd.V_alloc | apply Kd.V_drewN | apply Kd.V_drew)); exact HO439.out) hb)
          have n3_ := Asd.mk (blk_below (g := gb409) (o := .cells #[.int .i64 a0_0, .int .i64 a0_1, .int .i64 a0_2, .int .i64 a0_3, .string a0_4, .slice A0_5 l0_5.length c0_5] 24 (0, 0)) (by (with_reducible repeat (first | refine bDN ?_ _ | refine bDr ?_ | refine bAl ?_ _)); exact BK409.out) hb)
          have n4_ := Asd.mk (blk_below (g := gb420) (o := .cells #[.int .i64 t412, .int .i64 t413, .int .i64 t414, .int .i64 t415, .string t416, .slice Ao28 t417.length co28] 24 (0, 0)) (by (with_reducible repeat (first | refine bDN ?_ _ | refine bDr ?_ | refine bAl ?_ _)); exact BK420.out) hb)
          have n5_ := Asd.mk (wSp (by repeat (first | (with_reducible first | exact HB.out | apply wAl | apply pDN | apply wDr | refine wSt ?_ GE409.out | refine wSt ?_ GE420.out) | exact HB.out)) hb)
          clear HO419
          clear HO428
          clear HO439
          clear BK409
          clear BK420
          clear HB
          have HO419 := n0_
          have HO428 := n1_
          have HO439 := n2_
          have BK409 := n3_
          have BK420 := n4_
          have HB := n5_
          clear n0_ n1_ n2_ n3_ n4_ n5_
          (try clear hb)
          (try clear hb2)
          (try clear hk)
          (try clear hi)
          refine hK.out _ _ ⟨(bCl BK420.out 0).trans rfl, (bCl BK420.out 1).trans rfl, (bCl BK420.out 2).trans rfl, (bCl BK420.out 3).trans rfl, (bCl BK420.out 4).trans rfl, (bCl BK420.out 5).trans rfl, (bCl BK409.out 0).trans rfl, (bCl BK409.out 1).trans rfl, (bCl BK409.out 2).trans rfl, (bCl BK409.out 3).trans rfl, (bCl BK409.out 4).trans rfl, (bCl BK409.out 5).trans rfl⟩ (fun hHeld => ?_)
          clear hK K
          refine norm_ (a' := ?_) ?_ ?_
          rotate_left
          · show Act.put _ (some 28) _ = _
            simp only [Act.put, List.setIfInBounds_toArray, List.set_cons_zero, List.set_cons_succ, i64_w, i32_w]
            rfl
          refine pure_ (i := 19) (N := some 29) (v := ?_) (a' := ?_) #[true, true, true, true, true, true, true, true, true, true, true, true, true, true, true, true, true, true, true, true, false] rfl rfl (any_of HT_.out (by kernel_rfl)) (fun _ _ _ h => h) (Or.inl ⟨by rfl, ?_⟩) ?_ ?_
          rotate_left
          · intro w'
            go_simp
            with_reducible rfl
          rotate_left
          · simp only [Act.put, List.setIfInBounds_toArray, List.set_cons_zero, List.set_cons_succ, i64_w, i32_w]
            rfl
          refine pure_ (i := 20) (N := some 2) (v := ?_) (a' := ?_) #[true, true, true, true, true, true, true, true, true, true, true, true, true, true, true, true, true, true, true, true, true] rfl rfl (any_of HT_.out (by kernel_rfl)) (fun _ _ _ h => h) (Or.inl ⟨by rfl, ?_⟩) ?_ ?_
          rotate_left
          · intro w'
            go_simp
            with_reducible rfl
          rotate_left
          · simp only [Act.put, List.setIfInBounds_toArray, List.set_cons_zero, List.set_cons_succ, i64_w, i32_w]
            rfl
          refine done_ (done_of HT_.out (by kernel_rfl)) ?_
          try go_wp2
          go_ret
          exact ⟨by first | rfl | (simp [errW_none, errW_some] <;> rfl) | (simp [*, errW_none, errW_some] <;> rfl), by repeat (first | (with_reducible first | exact HB.out | apply wAl | apply pDN | apply wDr | refine wSt ?_ GE409.out | refine wSt ?_ GE420.out) | exact HB.out)⟩
        · rw [if_neg c18] at H
          exact absurd (Option.some.inj H) (by rw [hrt.out]; simp)
      · rw [if_neg c15] at H
        exact absurd (Option.some.inj H) (by rw [hrt.out]; simp)
    · rw [if_neg c12] at H
      exact absurd (Option.some.inj H) (by rw [hrt.out]; simp)
end Go.Proofs.Ytgbpdfkobelbcaa.PSimpFolds
end
section
open Go Go.Ref Go.Proofs Go.RowKit Go.Proofs.Ytgbpdfkobelbcaa.PSimpFolds Go.Proofs.YtgbpdfkobelbcaaW.PrintWords
set_option linter.unusedSimpArgs false
namespace Go.Ref
theorem law_pure (e : S24) : l20SimpFolds.f (3 * szE e + 3) e.f0 e.f1 e.f2 e.f3 e.f4 e.f5 = some true := by
  have hw := weigh_all (szE e) e (3 * szE e + 3) 301 (Nat.le_refl _) (by omega) (by omega) (by omega)
  unfold l20SimpFolds.f
  have hw' : r06Weigh.f (3 * szE e + 3) e.f0 e.f1 e.f2 e.f3 e.f4 e.f5 301 = some ((min (szE e) 301 : Nat) : Int) := hw
  rw [hw', Option.bind_some]
  by_cases hbig : ((min (szE e) 301 : Nat) : Int) > 300
  · rw [if_pos hbig]; rfl
  · rw [if_neg hbig]
    have hs : szE e ≤ 1000000 := by omega
    have hf := foldX_le e
    have h7 : ∀ (k : Nat) (x : S24), szE x ≤ 1000000 → simp_Fold.f k x.f0 x.f1 x.f2 x.f3 x.f4 x.f5 = some ((foldX x).f0, (foldX x).f1, (foldX x).f2, (foldX x).f3, (foldX x).f4, (foldX x).f5) := fun k x hx => by
      obtain ⟨b0, b1, b2, b3, b4, b5⟩ := x
      unfold simp_Fold.f
      exact if_pos hx
    have h9 : ∀ (k : Nat) (x : S24), szE x ≤ 1000000 → r20Fold.f k x.f0 x.f1 x.f2 x.f3 x.f4 x.f5 = some ((foldX x).f0, (foldX x).f1, (foldX x).f2, (foldX x).f3, (foldX x).f4, (foldX x).f5) := h7
    rw [h7 _ e hs, Option.bind_some]
    dsimp only
    rw [h9 _ e hs, Option.bind_some]
    dsimp only
    rw [same_all _ (foldX e) (3 * szE e + 3) (Nat.le_refl _) (by omega) (by omega), Option.bind_some, if_pos rfl]
    rw [size_all _ (foldX e) (3 * szE e + 3) (Nat.le_refl _) (by omega) (by omega), Option.bind_some]
    rw [size_all _ e (3 * szE e + 3) (Nat.le_refl _) hs (by omega), Option.bind_some, if_pos (by omega)]
    rw [h7 _ (foldX e) (by omega), Option.bind_some, fold_twice]
    dsimp only
    rw [same_all _ (foldX e) (3 * szE e + 3) (Nat.le_refl _) (by omega) (by omega), Option.bind_some, if_pos rfl]
    rfl
end Go.Ref
end
section
open Go Go.Ref Go.Proofs Go.RowKit Go.Proofs.YtgbpdfkobelbcaaW.PrintWords Go.Proofs.Ytgbpdfkobelbcaa.PSimpFolds
set_option maxRecDepth 100000
namespace Go.Proofs.Ytgbpdfkobelbcaa
theorem row_cells24 : Try.prog.cellsOf 24 = 6 := by kernel_rfl
theorem row_cells22 : Try.prog.cellsOf 22 = 1 := by kernel_rfl
theorem row_cells3 : Try.prog.cellsOf 3 = 1 := by kernel_rfl
theorem row_cells9 : Try.prog.cellsOf 9 = 1 := by kernel_rfl
theorem row_laid : laidOutB Try.prog = true := by kernel_rfl
theorem row_rec : Try.prog.readableRec 24 = true := by kernel_rfl
theorem choose_list {R : Nat → S24 → Prop} : ∀ n, (∀ i, i < n → ∃ x, R i x) → ∃ xs : List S24, xs.length = n ∧ ∀ i p, xs[i]? = some p → R i p
  | 0, _ => ⟨[], rfl, fun i p h => by simp at h⟩
  | n + 1, h => by
    obtain ⟨xs, h1, h2⟩ := choose_list n (fun i hi => h i (by omega))
    obtain ⟨x, hx⟩ := h n (by omega)
    refine ⟨xs ++ [x], by simp [h1], fun i p hp => ?_⟩
    rw [List.getElem?_append] at hp
    split at hp
    · exact h2 i p hp
    · rename_i hlt
      have : i = n := by
        have := (List.getElem?_eq_some_iff.1 hp).1
        simp at this; omega
      subst this
      rw [h1] at hp
      simp at hp
      rw [← hp]; exact hx
theorem trod24 {H : Type} {enc : TypeId × Value → H} {w : World} : ∀ (fuel : Nat) (cs : List Value) (x : DataW H × List MemPlace), DataW.trod enc Try.prog w 0 (fun _ => true) true fuel 24 cs = some x → ∃ e : S24, k24.K w e cs := by
  intro fuel
  induction fuel using Nat.strongRecOn with
  | _ fuel ih =>
  intro cs x h
  obtain ⟨xs, n, hn, hx, hl, hlen, hf⟩ := DataW.trod_struct Try.underlying24 h
  rw [row_cells24] at hl
  have h0 := hf 0 _ rfl
  have h1 := hf 1 _ rfl
  have h2 := hf 2 _ rfl
  have h3 := hf 3 _ rfl
  have h4 := hf 4 _ rfl
  have h5 := hf 5 _ rfl
  have hlen' : xs.length = 6 := hlen
  have hget : ∀ i, i < 6 → ∃ y, xs[i]? = some y := fun i hi => ⟨_, List.getElem?_eq_getElem (by omega)⟩
  obtain ⟨y0, e0⟩ := hget 0 (by omega)
  obtain ⟨y1, e1⟩ := hget 1 (by omega)
  obtain ⟨y2, e2⟩ := hget 2 (by omega)
  obtain ⟨y3, e3⟩ := hget 3 (by omega)
  obtain ⟨y4, e4⟩ := hget 4 (by omega)
  obtain ⟨y5, e5⟩ := hget 5 (by omega)
  rw [e0] at h0; rw [e1] at h1; rw [e2] at h2; rw [e3] at h3; rw [e4] at h4; rw [e5] at h5
  obtain ⟨a0, c0, _, _⟩ := DataW.trod_int Try.underlying3 h0
  obtain ⟨a1, c1, _, _⟩ := DataW.trod_int Try.underlying3 h1
  obtain ⟨a2, c2, _, _⟩ := DataW.trod_int Try.underlying3 h2
  obtain ⟨a3, c3, _, _⟩ := DataW.trod_int Try.underlying3 h3
  obtain ⟨s4, c4, _, _⟩ := DataW.trod_string Try.underlying9 h4
  match cs, hl with
  | [v0, v1, v2, v3, v4, v5], _ =>
  simp [row_cells3, row_cells9] at c0 c1 c2 c3 c4
  subst c0 c1 c2 c3 c4
  have h5' : DataW.trod enc Try.prog w 0 (fun _ => true) true n 22 [v5] = some y5 := by simpa [row_cells22] using h5
  rcases DataW.trod_slice Try.underlying22 h5' with ⟨c5, _⟩ | ⟨a, len, cap, elems, rest, n', hn', c5, _, _, hlc, hcm, hel, hei, _, _⟩
  · cases c5
    exact ⟨⟨a0, a1, a2, a3, s4, []⟩, k24_mk w ⟨a0, a1, a2, a3, s4, []⟩ (A5 := none) (c5 := 0) (Nat.le_refl _) (Kd.C_nil k24 w)⟩
  · cases c5
    rw [row_cells24] at hei
    obtain ⟨ys, hy1, hy2⟩ := choose_list (R := fun i p => ∃ c : List Value, c.length = 6 ∧ k24.K w p c ∧ ∀ j u, c[j]? = some u → w.cell? (a.add (i * 6 + j)) = some u) len (fun i hi => by
      have hi' := hei i hi
      have hex : ∃ y, elems[i]? = some y := ⟨_, List.getElem?_eq_getElem (by omega)⟩
      obtain ⟨y, hy⟩ := hex
      rw [hy, Option.bind_eq_some_iff] at hi'
      obtain ⟨c, hc, ht⟩ := hi'
      obtain ⟨p, hp⟩ := ih n' (by omega) c y ht
      have hsome := World.cells?_some hc
      refine ⟨p, c, k24.K_len hp, hp, fun j u hu => ?_⟩
      have hj : j < 6 := by have := (List.getElem?_eq_some_iff.1 hu).1; have := k24.K_len hp; have h6 : k24.sz = 6 := rfl; omega
      have hcell := hsome.2.2 j hj
      rw [hu] at hcell
      rwa [Addr.add_add] at hcell)
    have hmax : len ≤ 9223372036854775807 := by
      have : maxLen = 9223372036854775807 := by decide
      omega
    subst hy1
    exact ⟨⟨a0, a1, a2, a3, s4, ys⟩, k24_mk w ⟨a0, a1, a2, a3, s4, ys⟩ (A5 := some a) (c5 := cap) hlc ⟨rfl, hmax, fun _ => ⟨a, rfl, hy2⟩⟩⟩
namespace Sf
open Go.ChangeShapes Go.WideShapes Go.ChangeAt Go.RowKit
theorem own : ownKnob Try.prog.godebug = none := by kernel_rfl
theorem walk (e : S24) (cs : Array Value) (W : World) (h : k24.K W e cs.toList) : Calls Try.prog 3 #[.agg cs] W fun x w' => x = .returned (.bool true) ∧ Below W.heap.size W w' := by
  obtain ⟨A, c, hcs, hl, hC⟩ := k24_open h
  obtain rfl : cs = #[.int .i64 e.f0, .int .i64 e.f1, .int .i64 e.f2, .int .i64 e.f3, .string e.f4, .slice A e.f5.length c] := Array.toList_inj.1 (by rw [hcs])
  exact l20SimpFolds.calls (3 * szE e + 3) e.f0 e.f1 e.f2 e.f3 e.f4 A c e.f5 true W hC hl ⟨rfl⟩ (law_pure e)
theorem lifted (os : Os) (started : os.Started) (H : Type) (enc : TypeId × Value → H) :
    ReturnsInHanded {} Try.checked os 3 .any (Rows.simpFoldsSpec.pre6 enc Try.prog Try.f3 Rows.simpFoldsRow.domain false) (Rows.simpFoldsSpec.post enc Try.prog Try.f3 false true false false) := by
  refine returnsInHanded_of_change (C := Try.checked) own started (by kernel_rfl) Try.func3
    (ChangeSpec.witness6 (enc := enc) (C := Try.checked) false ⟨#[], #[.agg #[.int .i64 0, .int .i64 0, .int .i64 0, .int .i64 0, .string ⟨#[]⟩, .slice none 0 0]], []⟩ 8 (by kernel_rfl) (by kernel_rfl) (by kernel_rfl) (by kernel_rfl)) ?_
  intro W base args ds gs before hval0 hW hcnd _
  have hval : ∀ (j : Nat) t v, Try.f3.params[j]? = some t → args[j]? = some v → Value.okWide Try.prog W .any base t v := hval0
  have hW' := hW
  have hlt0 := hW.lt
  obtain ⟨p, q, hA0, hV, rfl, hfz, hnd⟩ := hW
  have hA : DataW.TrodAll enc Try.prog W 0 (fun _ => true) true Try.f3.params.toList args.toList ds p := hA0
  rw [Try.params3] at hA hval
  obtain ⟨v0, d0, rfl, rfl, h0⟩ := trodAll_one hA
  obtain ⟨rfl, rfl⟩ := trodVars_none hV
  obtain ⟨cs, rfl, hsz⟩ := okWide_struct Try.underlying24 (hval 0 24 v0 rfl rfl)
  obtain ⟨fuel, hf⟩ := h0
  obtain ⟨e, hK⟩ := trod24 fuel _ _ hf
  refine (walk e cs W hK).mono fun x W' ⟨he, hb⟩ => ?_
  subst he
  have hrow : 24 < Try.prog.types.size := of_decide_eq_true (by kernel_rfl)
  have hstay : DataW.Trod enc Try.prog W' 0 (fun b => decide (b < W.heap.size)) true 24 (.agg cs) d0 p := Below.trod row_laid row_rec hrow ⟨fuel, hf⟩ hb (fun x hx => hlt0 x (List.mem_append_left _ hx))
  exact ⟨_, rfl, [d0], [], _, [], p, [], hW', trodAll_mk1 (shut_bool Try.underlying4 _), trodAll_mk1 hstay, rfl, hb.frame _, fun h => by cases h⟩
end Sf
theorem simpFolds_holds : Rows.SimpFoldsSaid :=
  OpenClaim.holds_of_wide 3 Try.f3 rfl rfl rfl rfl rfl rfl rfl ⟨rfl, rfl, rfl, rfl, rfl⟩ rfl rfl rfl rfl rfl (by kernel_rfl) Try.func3 (by kernel_rfl)
    (of_decide_eq_true (by kernel_rfl)) (by unfold Func.isWrapper; rw [if_neg (by decide +kernel)]; exact ⟨rfl, rfl⟩)
    (fun os started H enc _ => Sf.lifted os started H enc)
end Go.Proofs.Ytgbpdfkobelbcaa
end
