/- A part of the proofs of two laws of folding: words, a reference machine, contracts. -/
import Derived.Test.YtgbpdfkobelbcaaSxB
import Derived.Orders
import Derived.Laws.Sem
import Derived.Below
section
namespace Go.Ref
open Go
section
variable {A : OR → OR → Prop}
theorem rel_iteK {b : Bool} {x x2 y y2 : OR} (h1 : A x x2) (h2 : A y y2) : A (iteK b x y) (iteK b x2 y2) := by cases b <;> first | exact h1 | exact h2
theorem rel_ptrK (hb : A .bad .bad) {x : RV} {k k2 : Pos → Nat → OR} (h : ∀ a o, A (k a o) (k2 a o)) : A (x.ptrK k) (x.ptrK k2) := by cases x <;> first | exact h _ _ | exact hb
theorem rel_boolK (hb : A .bad .bad) {x : RV} {k k2 : Bool → OR} (h : ∀ a, A (k a) (k2 a)) : A (x.boolK k) (x.boolK k2) := by cases x <;> first | exact h _ | exact hb
theorem rel_intK (hb : A .bad .bad) {x : RV} {k k2 : IntKind → Int → OR} (h : ∀ a o, A (k a o) (k2 a o)) : A (x.intK k) (x.intK k2) := by cases x <;> first | exact h _ _ | exact hb
theorem rel_natK (hb : A .bad .bad) {x : RV} {k k2 : Nat → OR} (h : ∀ a, A (k a) (k2 a)) : A (x.natK k) (x.natK k2) := by
  cases x <;> try exact hb
  rename_i i n
  cases n <;> first | exact h _ | exact hb
theorem rel_tupleK (hb : A .bad .bad) {x : RV} {k k2 : List RV → OR} (h : ∀ a, A (k a) (k2 a)) : A (x.tupleK k) (x.tupleK k2) := by cases x <;> first | exact h _ | exact hb
theorem rel_aggK (hb : A .bad .bad) {x : RV} {k k2 : List RV → OR} (h : ∀ a, A (k a) (k2 a)) : A (x.aggK k) (x.aggK k2) := by cases x <;> first | exact h _ | exact hb
theorem rel_strK (hb : A .bad .bad) {x : RV} {k k2 : List Nat → OR} (h : ∀ a, A (k a) (k2 a)) : A (x.strK k) (x.strK k2) := by cases x <;> first | exact h _ | exact hb
theorem rel_mapE (hb : A .bad .bad) {x : RV} {n n2 : OR} {k k2 : Pos → OR} (h0 : A n n2) (h : ∀ a, A (k a) (k2 a)) : A (x.mapE n k) (x.mapE n2 k2) := by cases x <;> first | exact h _ | exact h0 | exact hb
theorem rel_sliceE (hb : A .bad .bad) {x : RV} {n n2 : OR} {k k2 : Pos → Nat → Nat → Nat → Option Nat → OR} (h0 : A n n2) (h : ∀ a o l c u, A (k a o l c u) (k2 a o l c u)) : A (x.sliceE n k) (x.sliceE n2 k2) := by cases x <;> first | exact h _ _ _ _ _ | exact h0 | exact hb
theorem rel_someK (hb : A .bad .bad) {x : RV} {k k2 : RV → OR} (h : ∀ a, A (k a) (k2 a)) : A (x.someK k) (x.someK k2) := by cases x <;> first | exact h _ | exact hb
theorem rel_cellsK (hb : A .bad .bad) {x : RO} {k k2 : List RV → OR} (h : ∀ a, A (k a) (k2 a)) : A (x.cellsK k) (x.cellsK k2) := by cases x <;> first | exact h _ | exact hb
theorem rel_rdK (hb : A .bad .bad) {x : RO} {k k2 : List RV → OR} (h : ∀ a, A (k a) (k2 a)) : A (x.rdK k) (x.rdK k2) := by cases x <;> first | exact h _ | exact hb
theorem rel_mapK (hb : A .bad .bad) {x : RO} {k k2 : List ME → Nat → OR} (h : ∀ a c, A (k a c) (k2 a c)) : A (x.mapK k) (x.mapK k2) := by cases x <;> first | exact h _ _ | exact hb
theorem rel_lnth (hb : A .bad .bad) {k k2 : RV → OR} (h : ∀ a, A (k a) (k2 a)) : ∀ (i : Nat) (l : List RV), A (lnth i l k) (lnth i l k2)
  | 0, [] => hb
  | 0, x :: _ => h x
  | _ + 1, [] => hb
  | i + 1, _ :: l => rel_lnth hb h i l
theorem rel_ltakeK (hb : A .bad .bad) : ∀ (i : Nat) (l : List RV) {k k2 : List RV → OR}, (∀ a, A (k a) (k2 a)) → A (ltakeK i l k) (ltakeK i l k2)
  | 0, _, _, _, h => h []
  | _ + 1, [], _, _, _ => hb
  | i + 1, x :: l, k, k2, h => rel_ltakeK hb i l (k := fun y => k (x :: y)) (k2 := fun y => k2 (x :: y)) fun a => h (x :: a)
theorem rel_loverK (hb : A .bad .bad) : ∀ (vs l : List RV) {k k2 : List RV → OR}, (∀ a, A (k a) (k2 a)) → A (loverK vs l k) (loverK vs l k2)
  | [], _, _, _, h => h _
  | _ :: _, [], _, _, _ => hb
  | v :: vs, _ :: l, k, k2, h => rel_loverK hb vs l (k := fun y => k (v :: y)) (k2 := fun y => k2 (v :: y)) fun a => h (v :: a)
theorem rel_lputK (hb : A .bad .bad) : ∀ (i : Nat) (vs l : List RV) {k k2 : List RV → OR}, (∀ a, A (k a) (k2 a)) → A (lputK i vs l k) (lputK i vs l k2)
  | 0, vs, l, _, _, h => rel_loverK hb vs l h
  | _ + 1, _, [], _, _, _ => hb
  | i + 1, vs, x :: l, k, k2, h => rel_lputK hb i vs l (k := fun y => k (x :: y)) (k2 := fun y => k2 (x :: y)) fun a => h (x :: a)
theorem rel_optK (hb : A .bad .bad) {o : Option Operand} {d : Nat} {t t2 : Tr RV} (ho : ∀ x, o = some x → cOpd x t = cOpd x t2) {k k2 : Nat → OR} (h : ∀ a, A (k a) (k2 a)) : A (optK (o.map cOpd) d t k) (optK (o.map cOpd) d t2 k2) := by
  cases o with
  | none => exact h d
  | some x =>
    show A ((cOpd x t).natK k) ((cOpd x t2).natK k2)
    rw [ho x rfl]
    exact rel_natK hb h
theorem rel_findK (hb : A .bad .bad) {x : RV} {c c2 : Option RV → OR} (h : ∀ r, A (c r) (c2 r)) : ∀ es, A (findK x es c) (findK x es c2)
  | [] => h _
  | e :: es => by
    unfold findK
    cases keq1 x e.key with
    | none => exact hb
    | some r => cases r with
      | true => exact h _
      | false => exact rel_findK hb h es
theorem rel_updK (hb : A .bad .bad) {x v : RV} {clock : Nat} : ∀ (es : List ME) {c c2 : List ME → Nat → OR}, (∀ r k, A (c r k) (c2 r k)) → A (updK x v clock es c) (updK x v clock es c2)
  | [], _, _, h => h _ _
  | e :: es, c, c2, h => by
    unfold updK
    cases keq1 x e.key with
    | none => exact hb
    | some r => cases r with
      | true => exact h _ _
      | false => exact rel_updK hb es (c := fun es' n => c (e :: es') n) (c2 := fun es' n => c2 (e :: es') n) fun r k => h _ _
theorem rel_delK (hb : A .bad .bad) {x : RV} : ∀ (es : List ME) {c c2 : List ME → OR}, (∀ r, A (c r) (c2 r)) → A (delK x es c) (delK x es c2)
  | [], _, _, h => h _
  | e :: es, c, c2, h => by
    unfold delK
    cases keq1 x e.key with
    | none => exact hb
    | some r => cases r with
      | true => exact h _
      | false => exact rel_delK hb es (c := fun es' => c (e :: es')) (c2 := fun es' => c2 (e :: es')) fun r => h _
theorem rel_leftK (hb : A .bad .bad) {seen : List Nat} {since : Nat} : ∀ (es : List ME) {c c2 : List ME → OR}, (∀ r, A (c r) (c2 r)) → A (leftK seen since es c) (leftK seen since es c2)
  | [], _, _, h => h _
  | e :: es, c, c2, h => by
    unfold leftK
    cases Nat.blt e.born since with
    | false => exact hb
    | true =>
      cases inL e.born seen with
      | true => exact rel_leftK hb es h
      | false => exact rel_leftK hb es (c := fun l => c (e :: l)) (c2 := fun l => c2 (e :: l)) fun r => h _
theorem rel_lastK (hb : A .bad .bad) {c c2 : Nat → OR} (h : ∀ r, A (c r) (c2 r)) : ∀ l, A (lastK l c) (lastK l c2)
  | [] => hb
  | [x] => h x
  | _ :: y :: l => rel_lastK hb h (y :: l)
theorem rel_findB (hb : A .bad .bad) {b : Nat} {c c2 : ME → OR} (h : ∀ r, A (c r) (c2 r)) : ∀ es, A (findB b es c) (findB b es c2)
  | [] => hb
  | e :: es => by
    unfold findB
    cases Nat.beq e.born b with
    | true => exact h e
    | false => exact rel_findB hb h es
theorem rel_fillK (hb : A .bad .bad) {place : Nat → Option (Nat × Nat)} {t t2 : Tr RV} : ∀ (ps : List (Nat × Operand)) (cells : List RV) {k k2 : List RV → OR}, (∀ p ∈ ps, cOpd p.2 t = cOpd p.2 t2) → (∀ a, A (k a) (k2 a)) →
    A (fillK place (ps.map fun p => (p.1, cOpd p.2)) t cells k) (fillK place (ps.map fun p => (p.1, cOpd p.2)) t2 cells k2)
  | [], cells, _, _, _, h => h cells
  | (i, x) :: ps, cells, k, k2, hp, h => by
    show A (fillK place ((i, cOpd x) :: ps.map fun p => (p.1, cOpd p.2)) t cells k) (fillK place ((i, cOpd x) :: ps.map fun p => (p.1, cOpd p.2)) t2 cells k2)
    unfold fillK
    cases place i with
    | none => exact hb
    | some p =>
      obtain ⟨off, sz⟩ := p
      have := hp (i, x) (by simp)
      simp only [] at this ⊢
      rw [this]
      refine rel_someK hb fun v => rel_iteK (rel_lputK hb _ _ _ fun cells' => ?_) hb
      exact rel_fillK hb ps cells' (fun p hm => hp p (by simp [hm])) h
theorem argsOf_same {t t2 : Tr RV} : ∀ (l : List Operand), (∀ x ∈ l, cOpd x t = cOpd x t2) → argsOf (l.map cOpd) t = argsOf (l.map cOpd) t2
  | [], _ => rfl
  | x :: l, h => by
    show cOpd x t :: argsOf (l.map cOpd) t = cOpd x t2 :: argsOf (l.map cOpd) t2
    rw [h x (by simp), argsOf_same l fun y hy => h y (by simp [hy])]
theorem rel_firstK (hb : A .bad .bad) {sz : Nat} {m : Hp} {x : RV} {k k2 : List RV → OR} (h : ∀ a, A (k a) (k2 a)) : A (firstK sz m x k) (firstK sz m x k2) :=
  rel_sliceE hb hb fun _ _ _ _ _ => rel_rdK hb fun _ => rel_ltakeK hb _ _ h
end
section
variable {P : Program} {n : Nat} {dst : Option Tmp} {call : CallF} {t t2 : Tr RV} {m : Hp}
theorem cOp_rel {A : OR → OR → Prop} (hb : A .bad .bad) (hp : ∀ v m', A (putd n dst v t m') (putd n dst v t2 m')) {op : Op} (hx : ∀ x ∈ op.operands, cOpd x t = cOpd x t2) :
    A (cOp P n dst op call t m) (cOp P n dst op call t2 m) := by
  have hn : ∀ (m : Hp) (o : RO) (f : Pos → RV), A (newK m o fun a m => putd n dst (f a) t m) (newK m o fun a m => putd n dst (f a) t2 m) := by
    intro m o f; obtain ⟨h, nx, wm⟩ := m; exact hp _ _
  cases op <;> try exact hb
  case move x => show A (putd n dst (cOpd x t) t m) (putd n dst (cOpd x t2) t2 m); rw [hx x (by simp [Op.operands])]; exact hp _ _
  case assign x => show A (putd n dst (cOpd x t) t m) (putd n dst (cOpd x t2) t2 m); rw [hx x (by simp [Op.operands])]; exact hp _ _
  case pick c a b =>
    have h1 := hx c (by simp [Op.operands]); have h2 := hx a (by simp [Op.operands]); have h3 := hx b (by simp [Op.operands])
    unfold cOp; simp only [h1, h2, h3]
    exact rel_boolK hb fun _ => rel_iteK (hp _ _) (hp _ _)
  case alloc ty =>
    unfold cOp cAlloc; simp only []
    cases (zeroT P ty).known <;> first | exact hb | exact hn _ _ _
  case box ty x =>
    have h1 := hx x (by simp [Op.operands])
    unfold cOp; simp only [h1]
    exact rel_someK hb fun _ => hn _ _ _
  case build ty ps =>
    have hps : ∀ p ∈ ps.toList, cOpd p.2 t = cOpd p.2 t2 := fun p hm => hx p.2 (by simp [Op.operands]; exact ⟨p.1, by simpa using hm⟩)
    unfold cOp cBuild parts; simp only []
    cases (zeroT P ty).known <;> try exact hb
    cases und P ty <;> try exact hb
    · simp only []
      split
      · exact rel_fillK hb _ _ hps fun _ => hp _ _
      · exact hb
    · simp only []
      split
      · exact rel_fillK hb _ _ hps fun _ => hp _ _
      · exact hb
  case buildSlice ty len ps =>
    have hps : ∀ p ∈ ps.toList, cOpd p.2 t = cOpd p.2 t2 := fun p hm => hx p.2 (by simp [Op.operands]; exact ⟨p.1, by simpa using hm⟩)
    unfold cOp cBuildSlice parts; simp only []
    cases elemS P ty with
    | none => exact hb
    | some e =>
      simp only []
      cases ((zeroT P e).known && Nat.beq (llen (zeroT P e).cells) (size P e) && Nat.ble (len * size P e) 16777216) with
      | true => exact rel_fillK hb _ _ hps fun _ => hn _ _ _
      | false => exact hb
  case load ty x =>
    have h1 := hx x (by simp [Op.operands])
    unfold cOp; simp only []
    split
    · simp only [h1]
      unfold loadO
      refine rel_ptrK hb fun _ _ => rel_rdK hb fun _ => ?_
      cases aggT P ty
      · exact rel_lnth hb (fun _ => hp _ _) _ _
      · exact rel_ltakeK hb _ _ fun _ => hp _ _
    · exact hb
  case store ty x v =>
    have h1 := hx x (by simp [Op.operands]); have h2 := hx v (by simp [Op.operands])
    unfold cOp; simp only []
    split
    · simp only [h1, h2]
      unfold storeO
      exact rel_ptrK hb fun _ _ => rel_cellsK hb fun _ => rel_iteK (rel_iteK (rel_lputK hb _ _ _ fun _ => hp _ _) hb) hb
    · exact hb
  case nilCheck x =>
    have h1 := hx x (by simp [Op.operands])
    unfold cOp; simp only [h1]
    cases cOpd x t2 <;> first | exact hb | exact hp _ _
  case binOp op ty x y yt =>
    have h1 := hx x (by simp [Op.operands]); have h2 := hx y (by simp [Op.operands])
    have hf : A (binF op (cOpd x t2) (cOpd y t2) (putd n dst) t m) (binF op (cOpd x t2) (cOpd y t2) (putd n dst) t2 m) := by
      unfold binF
      cases op <;> try exact hb
      all_goals
        simp only []
        cases cOpd x t2 <;> try exact hb
        all_goals cases cOpd y t2 <;> try exact hb
        all_goals first | exact hp _ _ | exact rel_iteK (hp _ _) hb | exact rel_iteK (rel_iteK hb (hp _ _)) hb | exact rel_iteK (rel_iteK (hp _ _) hb) hb
    have he : ∀ d fl, A (eqF d fl (cOpd x t2) (cOpd y t2) (putd n dst) t m) (eqF d fl (cOpd x t2) (cOpd y t2) (putd n dst) t2 m) := by
      intro d fl
      unfold eqF
      cases d <;> try exact hb
      all_goals
        simp only []
        cases cOpd x t2 <;> try exact hb
        all_goals cases cOpd y t2 <;> first | exact hb | exact hp _ _
    unfold cOp cBin; simp only []
    cases und P ty
    case int k => simp only [h1, h2]; exact hf
    case string => simp only [h1, h2]; exact hf
    all_goals
      unfold eqOp
      cases op <;> try exact hb
      all_goals simp only [h1, h2]; exact he _ _
  case unOp op ty x =>
    have h1 := hx x (by simp [Op.operands])
    unfold cOp cUn; simp only []
    cases op <;> try exact hb
    all_goals simp only [h1]; first | exact rel_boolK hb fun _ => hp _ _ | exact rel_intK hb fun _ _ => hp _ _
  case convert s d x =>
    have h1 := hx x (by simp [Op.operands])
    unfold cOp cConv; simp only []
    split
    · cases und P d <;> try exact hb
      · simp only [h1]; exact rel_intK hb fun _ _ => hp _ _
      · simp only []
        cases und P s <;> try exact hb
        simp only [h1]
        cases cOpd x t2 <;> first | exact hb | exact hp _ _
    · exact hb
  case makeInterface ty x =>
    have h1 := hx x (by simp [Op.operands])
    unfold cOp; simp only []
    cases und P ty <;> try exact hb
    all_goals simp only [h1]; exact hp _ _
  case makeFunc fn a b =>
    unfold cOp; simp only []
    cases fn <;> try exact hb
    simp only []
    rw [argsOf_same (t2 := t2) a.toList fun x hm => hx x (by simp [Op.operands]; exact .inl (by simpa using hm)), argsOf_same (t2 := t2) b.toList fun x hm => hx x (by simp [Op.operands]; exact .inr (by simpa using hm))]
    exact hp _ _
  case makeMap ty r =>
    unfold cOp; simp only []
    cases r
    · exact hn _ _ _
    · exact hb
  case makeSlice ty l c =>
    have h1 := hx l (by simp [Op.operands]); have h2 := hx c (by simp [Op.operands])
    unfold cOp cMakeSlice; simp only []
    cases elemS P ty with
    | none => exact hb
    | some e =>
      simp only []
      cases ((zeroT P e).known && Nat.beq (llen (zeroT P e).cells) (size P e)) with
      | false => exact hb
      | true =>
        simp only [h1, h2]
        exact rel_natK hb fun _ => rel_natK hb fun _ => rel_iteK (rel_iteK (rel_iteK (hn _ _ _) hb) hb) hb
  case slice ty x lo hi mx =>
    have h1 := hx x (by simp [Op.operands])
    have hlo : ∀ y, lo = some y → cOpd y t = cOpd y t2 := fun y hy => hx y (by simp [Op.operands, hy])
    have hhi : ∀ y, hi = some y → cOpd y t = cOpd y t2 := fun y hy => hx y (by simp [Op.operands, hy])
    unfold cOp cSlice; simp only []
    cases und P ty <;> try exact hb
    case string =>
      simp only []
      cases mx with
      | some y => exact hb
      | none =>
        simp only [Option.map_none, h1]
        exact rel_strK hb fun _ => rel_optK hb hhi fun _ => rel_iteK (rel_optK hb hlo fun _ => rel_iteK (hp _ _) hb) hb
    case slice e =>
      simp only []
      split
      · cases mx with
        | none =>
          simp only [Option.map_none, h1]
          refine rel_sliceE hb (rel_optK hb hhi fun h => ?_) fun a o n' c u => rel_optK hb hhi fun h => rel_iteK (rel_optK hb hlo fun l => rel_iteK (rel_iteK (hp _ _) hb) hb) hb
          cases h with
          | succ => exact hb
          | zero => exact rel_optK hb hlo fun l => by cases l with | succ => exact hb | zero => exact hp _ _
        | some y =>
          have hy := hx y (by simp [Op.operands])
          cases hi with
          | none => exact hb
          | some z =>
            have hz := hx z (by simp [Op.operands])
            simp only [Option.map_some, h1, hy, hz]
            refine rel_sliceE hb (rel_natK hb fun q => ?_) fun a o n' c u => rel_natK hb fun q => rel_iteK (rel_natK hb fun h => rel_iteK (rel_optK hb hlo fun l => rel_iteK (hp _ _) hb) hb) hb
            cases q with
            | succ => exact hb
            | zero =>
              refine rel_natK hb fun h => ?_
              cases h with
              | succ => exact hb
              | zero => exact rel_optK hb hlo fun l => by cases l with | succ => exact hb | zero => exact hp _ _
      · exact hb
  case fieldAddr ty x f =>
    have h1 := hx x (by simp [Op.operands])
    unfold cOp cFieldAddr; simp only []
    cases (structF P ty).bind (fun fs => fs[f]?) with
    | none => exact hb
    | some fd =>
      simp only []
      cases size P fd.type with
      | zero => exact hb
      | succ k => simp only [h1]; exact rel_ptrK hb fun _ _ => hp _ _
  case field ty x f =>
    have h1 := hx x (by simp [Op.operands])
    unfold cOp cField; simp only []
    cases (structF P ty).bind (fun fs => fs[f]?) with
    | none => exact hb
    | some fd =>
      simp only []
      cases aggT P fd.type with
      | true => simp only [h1]; exact rel_aggK hb fun _ => rel_ltakeK hb _ _ fun _ => hp _ _
      | false =>
        simp only []
        split
        · simp only [h1]; exact rel_aggK hb fun _ => rel_lnth hb (fun _ => hp _ _) _ _
        · exact hb
  case indexAddr ty x i =>
    have h1 := hx x (by simp [Op.operands]); have h2 := hx i (by simp [Op.operands])
    unfold cOp cIndexAddr; simp only []
    cases und P ty <;> try exact hb
    · simp only []
      split
      · simp only [h1, h2]; exact rel_sliceE hb hb fun _ _ _ _ _ => rel_natK hb fun _ => rel_iteK (hp _ _) hb
      · exact hb
    · simp only []
      split
      · simp only [h1, h2]; exact rel_ptrK hb fun _ _ => rel_natK hb fun _ => rel_iteK (hp _ _) hb
      · exact hb
  case index ty x i =>
    have h1 := hx x (by simp [Op.operands]); have h2 := hx i (by simp [Op.operands])
    unfold cOp cIndex; simp only []
    cases und P ty <;> try exact hb
    · simp only [h1, h2]
      refine rel_strK hb fun s => rel_natK hb fun j => ?_
      cases s[j]? with
      | none => exact hb
      | some b => exact hp _ _
    · rename_i len e
      simp only []
      cases aggT P e with
      | true => simp only [h1, h2]; exact rel_aggK hb fun _ => rel_natK hb fun _ => rel_iteK (rel_ltakeK hb _ _ fun _ => hp _ _) hb
      | false =>
        simp only []
        split
        · simp only [h1, h2]; exact rel_aggK hb fun _ => rel_natK hb fun _ => rel_iteK (rel_lnth hb (fun _ => hp _ _) _ _) hb
        · exact hb
  case lookup ty x k ok =>
    have h1 := hx x (by simp [Op.operands]); have h2 := hx k (by simp [Op.operands])
    unfold cOp cLookup; simp only []
    cases mapElem P ty with
    | none => exact hb
    | some p =>
      simp only []
      cases ((zeroT P p.2).known && scalarT P p.1) with
      | false => exact hb
      | true =>
        simp only [h1, h2]
        cases ok
        all_goals
          refine rel_mapE hb (hp _ _) fun a => rel_mapK hb fun es _ => rel_iteK (rel_findK hb (fun r => ?_) es) hb
          cases r <;> exact hp _ _
  case mapUpdate ty x k v =>
    have h1 := hx x (by simp [Op.operands]); have h2 := hx k (by simp [Op.operands]); have h3 := hx v (by simp [Op.operands])
    unfold cOp cMapUpdate; simp only []
    cases mapElem P ty with
    | none => exact hb
    | some p =>
      simp only []
      cases scalarT P p.1 with
      | false => exact hb
      | true =>
        simp only [h1, h2, h3]
        exact rel_mapE hb hb fun a => rel_mapK hb fun es _ => rel_iteK (rel_updK hb es fun _ _ => hp _ _) hb
  case insert ty x k v =>
    have h1 := hx x (by simp [Op.operands]); have h2 := hx k (by simp [Op.operands]); have h3 := hx v (by simp [Op.operands])
    unfold cOp cMapUpdate; simp only []
    cases mapElem P ty with
    | none => exact hb
    | some p =>
      simp only []
      cases scalarT P p.1 with
      | false => exact hb
      | true =>
        simp only [h1, h2, h3]
        exact rel_mapE hb hb fun a => rel_mapK hb fun es _ => rel_iteK (rel_updK hb es fun _ _ => hp _ _) hb
  case range ty x =>
    have h1 := hx x (by simp [Op.operands])
    unfold cOp cRange; simp only []
    cases und P ty <;> try exact hb
    simp only [h1]
    exact rel_mapE hb (hn _ _ _) fun a => rel_mapK hb fun _ _ => hn _ _ _
  case next it str =>
    have h1 := hx it (by simp [Op.operands])
    unfold cOp cNext; simp only []
    cases str with
    | true => exact hb
    | false =>
      simp only [h1]
      refine rel_ptrK hb fun b o => ?_
      cases o with
      | succ => exact hb
      | zero =>
        simp only []
        cases m.at b <;> try exact hb
        rename_i mm since seen last
        cases mm with
        | none => exact hp _ _
        | some a =>
          refine rel_mapK hb fun es clock => rel_iteK (rel_leftK hb es fun l => ?_) hb
          cases l with
          | nil => exact hp _ _
          | cons e l => cases l with
            | nil => exact hp _ _
            | cons => exact hb
  case entry it =>
    have h1 := hx it (by simp [Op.operands])
    unfold cOp cEntry; simp only [h1]
    refine rel_ptrK hb fun b o => ?_
    cases o with
    | succ => exact hb
    | zero =>
      simp only []
      cases m.at b <;> try exact hb
      case mapIter mm since seen last =>
        cases mm with
        | none => exact hb
        | some a => exact rel_lastK hb (fun s => rel_mapK hb fun es clock => rel_iteK (rel_findB hb (fun e => hp _ _) es) hb) seen
      case mapAt a s last => exact rel_mapK hb fun es clock => rel_iteK (rel_findB hb (fun e => hp _ _) es) hb
  case extract x i =>
    have h1 := hx x (by simp [Op.operands])
    unfold cOp; simp only [h1]
    exact rel_tupleK hb fun l => rel_lnth hb (fun _ => hp _ _) _ _
  case call c =>
    obtain ⟨callee, args, argTypes⟩ := c
    obtain ⟨args⟩ := args
    obtain ⟨argTypes⟩ := argTypes
    unfold cOp; simp only []
    cases callee with
    | invoke r nm => exact hb
    | value f =>
      have h1 := hx f (by simp [Op.operands, Call.operands])
      have h2 := argsOf_same (t := t) (t2 := t2) args fun x hm => hx x (by simp [Op.operands, Call.operands, hm])
      simp only []
      unfold cCall
      simp only [h1, h2]
      cases cOpd f t2 <;> try exact hb
      rename_i fn first cap
      cases fn <;> try exact hb
      rename_i k
      simp only []
      cases call (.fn k) (first ++ (argsOf (args.map cOpd) t2 ++ cap)) m with
      | bad => exact hb
      | ok v m' => exact hp _ _
    | builtin b =>
      simp only []
      have hop : ∀ x ∈ args, cOpd x t = cOpd x t2 := fun x hm => hx x (by simp [Op.operands, Call.operands, hm])
      unfold cBuiltin
      split
      ·
        rename_i x ty
        have h1 := hop x (by simp)
        cases und P ty <;> try exact hb
        · simp only [h1]; exact rel_strK hb fun _ => hp _ _
        · simp only [h1]
          cases cOpd x t2 <;> first | exact hp _ _ | exact rel_sliceE hb (hp _ _) fun _ _ _ _ _ => hp _ _
        · simp only [h1]; exact rel_mapE hb (hp _ _) fun _ => rel_mapK hb fun _ _ => hp _ _
      ·
        rename_i x y tt tx
        have h1 := hop x (by simp)
        have h2 := hop y (by simp)
        cases und P tt <;> try exact hb
        cases und P tx <;> try exact hb
        rename_i e ex
        simp only []
        cases ((zeroT P e).known && Nat.beq (llen (zeroT P e).cells) (size P e)) with
        | false => exact hb
        | true =>
          simp only [h1, h2]
          unfold appendO
          have nothing : A ((cOpd x t2).sliceE (putd n dst .nilSlice t m) fun a o l c u => putd n dst (.slice a o l c u) t m) ((cOpd x t2).sliceE (putd n dst .nilSlice t2 m) fun a o l c u => putd n dst (.slice a o l c u) t2 m) :=
            rel_sliceE hb (hp _ _) fun _ _ _ _ _ => hp _ _
          refine rel_sliceE hb nothing fun _ _ k _ _ => ?_
          cases k with
          | zero => exact nothing
          | succ k =>
            refine rel_firstK hb fun new => ?_
            unfold appendS
            refine rel_sliceE hb (rel_iteK (hn _ _ _) hb) fun a o l c u => rel_iteK (rel_iteK (rel_cellsK hb fun _ => rel_lputK hb _ _ _ fun _ => hp _ _) hb) (rel_iteK (rel_firstK hb fun old => ?_) hb)
            cases u with
            | none => exact hn _ _ _
            | some z => exact rel_iteK (rel_iteK (rel_cellsK hb fun _ => hn _ _ _) hb) hb
      ·
        rename_i x k ty rest
        have h1 := hop x (by simp)
        have h2 := hop k (by simp)
        cases mapElem P ty with
        | none => exact hb
        | some p =>
          simp only []
          cases scalarT P p.1 with
          | false => exact hb
          | true =>
            simp only [h1, h2]
            exact rel_mapE hb hb fun a => rel_mapK hb fun es _ => rel_iteK (rel_delK hb es fun _ => hp _ _) hb
      ·
        rename_i x ty
        have h1 := hop x (by simp)
        cases elemS P ty with
        | none => exact hb
        | some e =>
          simp only []
          cases ((zeroT P e).known && Nat.beq (llen (zeroT P e).cells) (size P e)) with
          | false => exact hb
          | true =>
            simp only [h1]
            refine rel_sliceE hb (hp _ _) fun a o l c u => ?_
            cases l with
            | zero => exact hp _ _
            | succ l => exact rel_iteK (rel_cellsK hb fun _ => rel_lputK hb _ _ _ fun _ => hp _ _) hb
      · rename_i x y
        have h1 := hop x (by simp)
        have h2 := hop y (by simp)
        simp only [h1, h2]
        exact rel_intK hb fun _ _ => rel_intK hb fun _ _ => hp _ _
      · rename_i x y
        have h1 := hop x (by simp)
        have h2 := hop y (by simp)
        simp only [h1, h2]
        exact rel_intK hb fun _ _ => rel_intK hb fun _ _ => hp _ _
      ·
        rename_i x ty
        have h1 := hop x (by simp)
        simp only []
        cases und P ty <;> try exact hb
        simp only [h1]
        refine rel_sliceE hb (hp _ _) fun _ _ _ _ u => ?_
        cases u <;> first | exact hp _ _ | exact hb
      · exact hb
theorem cOp_quiet {m2 : Hp} {A : OR → OR → Prop} (hb : A .bad .bad) (hp : ∀ v, A (putd n dst v t m) (putd n dst v t2 m2))
    (hn : ∀ (o : RO) (f : Pos → RV), A (newK m o fun a m => putd n dst (f a) t m) (newK m2 o fun a m => putd n dst (f a) t2 m)) {op : Op} (hq : loud op = false) (hx : ∀ x ∈ op.operands, cOpd x t = cOpd x t2) :
    A (cOp P n dst op call t m) (cOp P n dst op call t2 m2) := by
  cases op <;> (try exact hb) <;> try (exact Bool.noConfusion (show true = false from hq))
  case move x => show A (putd n dst (cOpd x t) t m) (putd n dst (cOpd x t2) t2 m2); rw [hx x (by simp [Op.operands])]; exact hp _
  case assign x => show A (putd n dst (cOpd x t) t m) (putd n dst (cOpd x t2) t2 m2); rw [hx x (by simp [Op.operands])]; exact hp _
  case pick c a b =>
    have h1 := hx c (by simp [Op.operands]); have h2 := hx a (by simp [Op.operands]); have h3 := hx b (by simp [Op.operands])
    unfold cOp; simp only [h1, h2, h3]
    exact rel_boolK hb fun _ => rel_iteK (hp _) (hp _)
  case alloc ty =>
    unfold cOp cAlloc; simp only []
    cases (zeroT P ty).known <;> first | exact hb | exact hn _ _
  case box ty x =>
    have h1 := hx x (by simp [Op.operands])
    unfold cOp; simp only [h1]
    exact rel_someK hb fun _ => hn _ _
  case build ty ps =>
    have hps : ∀ p ∈ ps.toList, cOpd p.2 t = cOpd p.2 t2 := fun p hm => hx p.2 (by simp [Op.operands]; exact ⟨p.1, by simpa using hm⟩)
    unfold cOp cBuild parts; simp only []
    cases (zeroT P ty).known <;> try exact hb
    cases und P ty <;> try exact hb
    · simp only []
      split
      · exact rel_fillK hb _ _ hps fun _ => hp _
      · exact hb
    · simp only []
      split
      · exact rel_fillK hb _ _ hps fun _ => hp _
      · exact hb
  case buildSlice ty len ps =>
    have hps : ∀ p ∈ ps.toList, cOpd p.2 t = cOpd p.2 t2 := fun p hm => hx p.2 (by simp [Op.operands]; exact ⟨p.1, by simpa using hm⟩)
    unfold cOp cBuildSlice parts; simp only []
    cases elemS P ty with
    | none => exact hb
    | some e =>
      simp only []
      cases ((zeroT P e).known && Nat.beq (llen (zeroT P e).cells) (size P e) && Nat.ble (len * size P e) 16777216) with
      | true => exact rel_fillK hb _ _ hps fun _ => hn _ _
      | false => exact hb
  case nilCheck x =>
    have h1 := hx x (by simp [Op.operands])
    unfold cOp; simp only [h1]
    cases cOpd x t2 <;> first | exact hb | exact hp _
  case binOp op ty x y yt =>
    have h1 := hx x (by simp [Op.operands]); have h2 := hx y (by simp [Op.operands])
    have hf : A (binF op (cOpd x t2) (cOpd y t2) (putd n dst) t m) (binF op (cOpd x t2) (cOpd y t2) (putd n dst) t2 m2) := by
      unfold binF
      cases op <;> try exact hb
      all_goals
        simp only []
        cases cOpd x t2 <;> try exact hb
        all_goals cases cOpd y t2 <;> try exact hb
        all_goals first | exact hp _ | exact rel_iteK (hp _) hb | exact rel_iteK (rel_iteK hb (hp _)) hb | exact rel_iteK (rel_iteK (hp _) hb) hb
    have he : ∀ d fl, A (eqF d fl (cOpd x t2) (cOpd y t2) (putd n dst) t m) (eqF d fl (cOpd x t2) (cOpd y t2) (putd n dst) t2 m2) := by
      intro d fl
      unfold eqF
      cases d <;> try exact hb
      all_goals
        simp only []
        cases cOpd x t2 <;> try exact hb
        all_goals cases cOpd y t2 <;> first | exact hb | exact hp _
    unfold cOp cBin; simp only []
    cases und P ty
    case int k => simp only [h1, h2]; exact hf
    case string => simp only [h1, h2]; exact hf
    all_goals
      unfold eqOp
      cases op <;> try exact hb
      all_goals simp only [h1, h2]; exact he _ _
  case unOp op ty x =>
    have h1 := hx x (by simp [Op.operands])
    unfold cOp cUn; simp only []
    cases op <;> try exact hb
    all_goals simp only [h1]; first | exact rel_boolK hb fun _ => hp _ | exact rel_intK hb fun _ _ => hp _
  case convert s d x =>
    have h1 := hx x (by simp [Op.operands])
    unfold cOp cConv; simp only []
    split
    · cases und P d <;> try exact hb
      · simp only [h1]; exact rel_intK hb fun _ _ => hp _
      · simp only []
        cases und P s <;> try exact hb
        simp only [h1]
        cases cOpd x t2 <;> first | exact hb | exact hp _
    · exact hb
  case makeInterface ty x =>
    have h1 := hx x (by simp [Op.operands])
    unfold cOp; simp only []
    cases und P ty <;> try exact hb
    all_goals simp only [h1]; exact hp _
  case makeFunc fn a b =>
    unfold cOp; simp only []
    cases fn <;> try exact hb
    simp only []
    rw [argsOf_same (t2 := t2) a.toList fun x hm => hx x (by simp [Op.operands]; exact .inl (by simpa using hm)), argsOf_same (t2 := t2) b.toList fun x hm => hx x (by simp [Op.operands]; exact .inr (by simpa using hm))]
    exact hp _
  case makeMap ty r =>
    unfold cOp; simp only []
    cases r
    · exact hn _ _
    · exact hb
  case makeSlice ty l c =>
    have h1 := hx l (by simp [Op.operands]); have h2 := hx c (by simp [Op.operands])
    unfold cOp cMakeSlice; simp only []
    cases elemS P ty with
    | none => exact hb
    | some e =>
      simp only []
      cases ((zeroT P e).known && Nat.beq (llen (zeroT P e).cells) (size P e)) with
      | false => exact hb
      | true =>
        simp only [h1, h2]
        exact rel_natK hb fun _ => rel_natK hb fun _ => rel_iteK (rel_iteK (rel_iteK (hn _ _) hb) hb) hb
  case slice ty x lo hi mx =>
    have h1 := hx x (by simp [Op.operands])
    have hlo : ∀ y, lo = some y → cOpd y t = cOpd y t2 := fun y hy => hx y (by simp [Op.operands, hy])
    have hhi : ∀ y, hi = some y → cOpd y t = cOpd y t2 := fun y hy => hx y (by simp [Op.operands, hy])
    unfold cOp cSlice; simp only []
    cases und P ty <;> try exact hb
    case string =>
      simp only []
      cases mx with
      | some y => exact hb
      | none =>
        simp only [Option.map_none, h1]
        exact rel_strK hb fun _ => rel_optK hb hhi fun _ => rel_iteK (rel_optK hb hlo fun _ => rel_iteK (hp _) hb) hb
    case slice e =>
      simp only []
      split
      · cases mx with
        | none =>
          simp only [Option.map_none, h1]
          refine rel_sliceE hb (rel_optK hb hhi fun h => ?_) fun a o n' c u => rel_optK hb hhi fun h => rel_iteK (rel_optK hb hlo fun l => rel_iteK (rel_iteK (hp _) hb) hb) hb
          cases h with
          | succ => exact hb
          | zero => exact rel_optK hb hlo fun l => by cases l with | succ => exact hb | zero => exact hp _
        | some y =>
          have hy := hx y (by simp [Op.operands])
          cases hi with
          | none => exact hb
          | some z =>
            have hz := hx z (by simp [Op.operands])
            simp only [Option.map_some, h1, hy, hz]
            refine rel_sliceE hb (rel_natK hb fun q => ?_) fun a o n' c u => rel_natK hb fun q => rel_iteK (rel_natK hb fun h => rel_iteK (rel_optK hb hlo fun l => rel_iteK (hp _) hb) hb) hb
            cases q with
            | succ => exact hb
            | zero =>
              refine rel_natK hb fun h => ?_
              cases h with
              | succ => exact hb
              | zero => exact rel_optK hb hlo fun l => by cases l with | succ => exact hb | zero => exact hp _
      · exact hb
  case fieldAddr ty x f =>
    have h1 := hx x (by simp [Op.operands])
    unfold cOp cFieldAddr; simp only []
    cases (structF P ty).bind (fun fs => fs[f]?) with
    | none => exact hb
    | some fd =>
      simp only []
      cases size P fd.type with
      | zero => exact hb
      | succ k => simp only [h1]; exact rel_ptrK hb fun _ _ => hp _
  case field ty x f =>
    have h1 := hx x (by simp [Op.operands])
    unfold cOp cField; simp only []
    cases (structF P ty).bind (fun fs => fs[f]?) with
    | none => exact hb
    | some fd =>
      simp only []
      cases aggT P fd.type with
      | true => simp only [h1]; exact rel_aggK hb fun _ => rel_ltakeK hb _ _ fun _ => hp _
      | false =>
        simp only []
        split
        · simp only [h1]; exact rel_aggK hb fun _ => rel_lnth hb (fun _ => hp _) _ _
        · exact hb
  case indexAddr ty x i =>
    have h1 := hx x (by simp [Op.operands]); have h2 := hx i (by simp [Op.operands])
    unfold cOp cIndexAddr; simp only []
    cases und P ty <;> try exact hb
    · simp only []
      split
      · simp only [h1, h2]; exact rel_sliceE hb hb fun _ _ _ _ _ => rel_natK hb fun _ => rel_iteK (hp _) hb
      · exact hb
    · simp only []
      split
      · simp only [h1, h2]; exact rel_ptrK hb fun _ _ => rel_natK hb fun _ => rel_iteK (hp _) hb
      · exact hb
  case index ty x i =>
    have h1 := hx x (by simp [Op.operands]); have h2 := hx i (by simp [Op.operands])
    unfold cOp cIndex; simp only []
    cases und P ty <;> try exact hb
    · simp only [h1, h2]
      refine rel_strK hb fun s => rel_natK hb fun j => ?_
      cases s[j]? with
      | none => exact hb
      | some b => exact hp _
    · rename_i len e
      simp only []
      cases aggT P e with
      | true => simp only [h1, h2]; exact rel_aggK hb fun _ => rel_natK hb fun _ => rel_iteK (rel_ltakeK hb _ _ fun _ => hp _) hb
      | false =>
        simp only []
        split
        · simp only [h1, h2]; exact rel_aggK hb fun _ => rel_natK hb fun _ => rel_iteK (rel_lnth hb (fun _ => hp _) _ _) hb
        · exact hb
  case extract x i =>
    have h1 := hx x (by simp [Op.operands])
    unfold cOp; simp only [h1]
    exact rel_tupleK hb fun l => rel_lnth hb (fun _ => hp _) _ _
end
end Go.Ref
end
section
namespace Go.Ref
open Go
noncomputable def setd (dst : Option Tmp) (v : RV) (t : Tr RV) : Tr RV := match dst with | some d => Tr.set undef (path d) v t | Option.none => t
theorem putd_ok {n : Nat} {dst : Option Tmp} {v : RV} {t t' : Tr RV} {m m' : Hp} (h : putd n dst v t m = .ok t' m') : t' = setd dst v t ∧ m' = m ∧ ∀ (t2 : Tr RV) (m2 : Hp), putd n dst v t2 m2 = .ok (setd dst v t2) m2 := by
  unfold putd at h ⊢
  cases dst with
  | none => cases h; exact ⟨rfl, rfl, fun _ _ => rfl⟩
  | some d =>
    cases hd : Nat.blt d n with
    | false => simp only [hd] at h; cases h
    | true => simp only [hd] at h ⊢; cases h; exact ⟨rfl, rfl, fun _ _ => rfl⟩
theorem setd_get {dst : Option Tmp} {v : RV} {t : Tr RV} {d : Nat} (h : dst ≠ some d) : Tr.get undef (path d) (setd dst v t) = Tr.get undef (path d) t := by
  cases dst with
  | none => rfl
  | some e => exact Tr.get_set_ne (fun q => h (by rw [path_inj q])) _ _
theorem setd_same {v : RV} {t : Tr RV} {d : Nat} : Tr.get undef (path d) (setd (some d) v t) = v := Tr.get_set _ _ _
section
variable {P : Program} {n : Nat} {ops : Array Oper} {o : Oper} {call : CallF} {t t2 : Tr RV} {m : Hp}
def Agree (ops : Array Oper) (o : Oper) (t t2 : Tr RV) : Prop := ∀ d ∈ o.looksAt ops, Tr.get undef (path d) t = Tr.get undef (path d) t2
theorem Agree.opd (h : Agree ops o t t2) {x : Operand} (hx : x ∈ o.op.operands) : cOpd x t = cOpd x t2 := by
  cases x with
  | tmp d => exact h d (List.mem_append_left _ (List.mem_filterMap.2 ⟨.tmp d, by simpa using hx, rfl⟩))
  | const v => rfl
  | global g => rfl
  | func f => rfl
theorem cOper_rel {m2 : Hp} {A : OR → OR → Prop} (hb : A .bad .bad) (hput : A (putd n o.dst undef t m) (putd n o.dst undef t2 m2)) (hop : A (cOp P n o.dst o.op call t m) (cOp P n o.dst o.op call t2 m2)) (ha : Agree ops o t t2) :
    A (cOper P n ops o call t m) (cOper P n ops o call t2 m2) := by
  unfold cOper
  cases o.op.operands.all okOpd with
  | false => exact hb
  | true =>
    cases hg : o.guard with
    | none => exact hop
    | some p =>
      obtain ⟨j, want⟩ := p
      simp only []
      cases hd : (ops[j]?).bind (·.dst) with
      | none => exact hput
      | some d =>
        simp only []
        cases Nat.blt d n with
        | false => exact hb
        | true =>
          simp only []
          have hda : Tr.get undef (path d) t = Tr.get undef (path d) t2 := ha d (List.mem_append_right _ (by rw [hg]; simp [hd]))
          rw [hda]
          cases Tr.get undef (path d) t2 <;> try exact hb
          · rename_i b
            simp only []
            cases b == want with
            | true => exact hop
            | false => exact hput
          · exact hput
def TwoR (dst : Option Tmp) (t t2 : Tr RV) (r r2 : OR) : Prop := ∀ t' m', r = .ok t' m' → ∃ v, t' = setd dst v t ∧ r2 = .ok (setd dst v t2) m'
theorem twoR_bad {dst : Option Tmp} : TwoR dst t t2 .bad .bad := fun _ _ h => by cases h
theorem twoR_put {dst : Option Tmp} (v : RV) (m1 : Hp) : TwoR dst t t2 (putd n dst v t m1) (putd n dst v t2 m1) := by
  intro t' m' h
  obtain ⟨h1, h2, h3⟩ := putd_ok h
  subst h2
  exact ⟨v, h1, h3 t2 m'⟩
theorem oper_two (ha : Agree ops o t t2) {t' : Tr RV} {m' : Hp} (h : cOper P n ops o call t m = .ok t' m') : ∃ v, t' = setd o.dst v t ∧ cOper P n ops o call t2 m = .ok (setd o.dst v t2) m' :=
  cOper_rel (A := TwoR o.dst t t2) twoR_bad (twoR_put _ _) (cOp_rel (A := TwoR o.dst t t2) twoR_bad twoR_put fun _ hx => ha.opd hx) ha t' m' h
def QuietR (dst : Option Tmp) (t t2 : Tr RV) (m m2 : Hp) (r r2 : OR) : Prop := ∀ t' m', r = .ok t' m' → ∃ v, t' = setd dst v t ∧ ((m' = m ∧ r2 = .ok (setd dst v t2) m2) ∨
      ∃ ro, m' = ⟨Tr.set .dead m.nx ro m.h, m.nx.succ, m.wm⟩ ∧ r2 = .ok (setd dst v t2) ⟨Tr.set .dead m.nx ro m2.h, m.nx.succ, m2.wm⟩)
theorem quietR_put {dst : Option Tmp} {m2 : Hp} (v : RV) : QuietR dst t t2 m m2 (putd n dst v t m) (putd n dst v t2 m2) := by
  intro t' m' h
  obtain ⟨h1, h2, h3⟩ := putd_ok h
  exact ⟨v, h1, .inl ⟨h2, h3 t2 m2⟩⟩
theorem quietR_new {dst : Option Tmp} {m2 : Hp} (hn2 : m2.nx = m.nx) (ro : RO) (f : Pos → RV) : QuietR dst t t2 m m2 (newK m ro fun a m => putd n dst (f a) t m) (newK m2 ro fun a m => putd n dst (f a) t2 m) := by
  intro t' m' h
  obtain ⟨h1, nx, wm⟩ := m
  obtain ⟨h2, nx2, wm2⟩ := m2
  have hn2 : nx2 = nx := hn2
  subst hn2
  obtain ⟨e1, e2, e3⟩ := putd_ok (v := f nx2) h
  exact ⟨f nx2, e1, .inr ⟨ro, e2, e3 t2 _⟩⟩
theorem oper_quiet (hq : loud o.op = false) {m2 : Hp} (hn2 : m2.nx = m.nx) (ha : Agree ops o t t2) {t' : Tr RV} {m' : Hp} (h : cOper P n ops o call t m = .ok t' m') :
    ∃ v, t' = setd o.dst v t ∧ ((m' = m ∧ cOper P n ops o call t2 m2 = .ok (setd o.dst v t2) m2) ∨
      ∃ ro, m' = ⟨Tr.set .dead m.nx ro m.h, m.nx.succ, m.wm⟩ ∧ cOper P n ops o call t2 m2 = .ok (setd o.dst v t2) ⟨Tr.set .dead m.nx ro m2.h, m.nx.succ, m2.wm⟩) :=
  cOper_rel (A := QuietR o.dst t t2 m m2) (fun _ _ h => by cases h) (quietR_put _) (cOp_quiet (A := QuietR o.dst t t2 m m2) (fun _ _ h => by cases h) quietR_put (quietR_new hn2) hq fun _ hx => ha.opd hx) ha t' m' h
theorem loadO_at {ag : Bool} {sz : Nat} {q : Pos} {off : Nat} {m2 : Hp} (hm : m2.at q = m.at q) (k : RV → OR) : loadO ag sz m2 (.ptr q off) k = loadO ag sz m (.ptr q off) k := by
  unfold loadO RV.ptrK
  simp only [hm]
def LoadR (dst : Option Tmp) (t t2 : Tr RV) (m m2 : Hp) (r r2 : OR) : Prop := ∀ t' m', r = .ok t' m' → m' = m ∧ ∃ v, t' = setd dst v t ∧ r2 = .ok (setd dst v t2) m2
theorem loadR_bad {dst : Option Tmp} {m2 : Hp} : LoadR dst t t2 m m2 .bad .bad := fun _ _ h => by cases h
theorem loadR_put {dst : Option Tmp} {m2 : Hp} (v : RV) : LoadR dst t t2 m m2 (putd n dst v t m) (putd n dst v t2 m2) := by
  intro t' m' h
  obtain ⟨h1, h2, h3⟩ := putd_ok h
  exact ⟨h2, v, h1, h3 t2 m2⟩
theorem oper_load {ty : TypeId} {x : Operand} (ho : o.op = .load ty x) {q : Pos} {off : Nat} (hq : cOpd x t = .ptr q off) (ha : Agree ops o t t2) {t' : Tr RV} {m' : Hp} (h : cOper P n ops o call t m = .ok t' m') {m2 : Hp} (hm : m2.at q = m.at q) :
    m' = m ∧ ∃ v, t' = setd o.dst v t ∧ cOper P n ops o call t2 m2 = .ok (setd o.dst v t2) m2 := by
  refine cOper_rel (A := LoadR o.dst t t2 m m2) loadR_bad (loadR_put _) ?_ ha t' m' h
  have h1 : cOpd x t2 = .ptr q off := by rw [← ha.opd (x := x) (by rw [ho]; simp [Op.operands])]; exact hq
  rw [ho]
  unfold cOp
  simp only []
  by_cases hv : validT P ty = true
  · rw [if_pos hv]
    simp only [hq, h1]
    rw [loadO_at hm]
    unfold loadO
    refine rel_ptrK loadR_bad fun _ _ => rel_rdK loadR_bad fun _ => ?_
    cases aggT P ty
    · exact rel_lnth loadR_bad (fun _ => loadR_put _) _ _
    · exact rel_ltakeK loadR_bad _ _ fun _ => loadR_put _
  · rw [if_neg hv]
    exact loadR_bad
def Leaves (m : Hp) (q : Pos) (r _r2 : OR) : Prop := ∀ t' m', r = .ok t' m' → ∀ p, p ≠ q → p.num < m.nx.num → m'.at p = m.at p
theorem leaves_bad {q : Pos} {r2 : OR} : Leaves m q .bad r2 := fun _ _ h => by cases h
theorem leaves_put {q : Pos} {dst : Option Tmp} {v : RV} {m1 : Hp} {r2 : OR} (hm : ∀ p, p ≠ q → p.num < m.nx.num → m1.at p = m.at p) : Leaves m q (putd n dst v t m1) r2 := by
  intro t' m' h
  obtain ⟨_, h2, _⟩ := putd_ok h
  rw [h2]; exact hm
theorem leaves_new {q : Pos} {dst : Option Tmp} {f : Pos → RV} {m1 : Hp} {ro : RO} {r2 : OR} (hn : m1.nx = m.nx) (hm : ∀ p, p ≠ q → p.num < m.nx.num → m1.at p = m.at p) : Leaves m q (newK m1 ro fun a m => putd n dst (f a) t m) r2 := by
  obtain ⟨h1, nx, wm⟩ := m1
  refine leaves_put fun p h1 h2 => ?_
  rw [Hp.at_new, if_neg]
  · exact hm p h1 h2
  · rintro rfl
    have hn : p = m.nx := hn
    rw [← hn] at h2; exact Nat.lt_irrefl _ h2
theorem put_ne {q : Pos} {ro : RO} : ∀ p, p ≠ q → p.num < m.nx.num → (m.put q ro).at p = m.at p := fun p h _ => by rw [Hp.at_put, if_neg h]
theorem watch_ne {m m' : Hp} {q : Pos} : watch m m' ≠ .wr q := by
  unfold watch
  split <;> simp
theorem oper_wr {q : Pos} {mm : Hp} (hev : evOf o.op t m mm = .wr q) {t' : Tr RV} {m' : Hp} (h : cOper P n ops o call t m = .ok t' m') : ∀ p, p ≠ q → p.num < m.nx.num → m'.at p = m.at p := by
  refine cOper_rel (t2 := t) (m2 := m) (A := Leaves m q) leaves_bad (leaves_put fun _ _ _ => rfl) ?_ (fun _ _ => rfl) t' m' h
  unfold evOf at hev
  cases ho : o.op <;> rw [ho] at hev <;> try (exact absurd hev watch_ne)
  case load ty x =>
    simp only [] at hev
    split at hev <;> first | (cases hev; done) | exact absurd hev watch_ne
  case store ty x v =>
    simp only [] at hev
    split at hev <;> try (exact absurd hev watch_ne)
    cases hev
    rename_i o' hx
    unfold cOp; simp only []
    split
    · simp only [hx]
      unfold storeO
      simp only [RV.ptrK]
      exact rel_cellsK leaves_bad fun _ => rel_iteK (rel_iteK (rel_lputK leaves_bad _ _ _ fun _ => leaves_put put_ne) leaves_bad) leaves_bad
    · exact leaves_bad
  case call c =>
    obtain ⟨callee, args, argTypes⟩ := c
    obtain ⟨args⟩ := args
    obtain ⟨argTypes⟩ := argTypes
    cases callee with
    | value f => exact absurd hev watch_ne
    | invoke r nm => exact absurd hev watch_ne
    | builtin b =>
      cases b <;> try (exact absurd hev watch_ne)
      cases args with
      | nil => exact absurd hev watch_ne
      | cons x rest =>
        have hev' : (match cOpd x t with | .slice a _ _ _ _ => Ev.wr a | _ => watch m mm) = .wr q := hev
        cases hx : cOpd x t <;> rw [hx] at hev' <;> try (exact absurd hev' watch_ne)
        rename_i a o' l c u
        cases hev'
        unfold cOp; simp only []
        unfold cBuiltin
        clear hev ho h
        cases rest with
        | nil => cases argTypes with
          | nil => exact leaves_bad
          | cons _ l => cases l <;> exact leaves_bad
        | cons y rest =>
        cases rest with
        | cons => cases argTypes with
          | nil => exact leaves_bad
          | cons _ l => cases l <;> exact leaves_bad
        | nil =>
        cases argTypes with
        | nil => exact leaves_bad
        | cons tt l =>
        cases l with
        | nil => exact leaves_bad
        | cons tx l =>
        cases l with
        | cons => exact leaves_bad
        | nil =>
        simp only []
        cases und P tt <;> try exact leaves_bad
        cases und P tx <;> try exact leaves_bad
        rename_i e ex
        simp only []
        cases ((zeroT P e).known && Nat.beq (llen (zeroT P e).cells) (size P e)) with
        | false => exact leaves_bad
        | true =>
          simp only [hx]
          unfold appendO
          have nothing : ∀ r2, Leaves m q ((RV.slice q o' l c u).sliceE (putd n o.dst .nilSlice t m) fun a o' l c u => putd n o.dst (.slice a o' l c u) t m) r2 := fun r2 => leaves_put fun _ _ _ => rfl
          refine rel_sliceE leaves_bad (nothing _) fun _ _ k _ _ => ?_
          cases k with
          | zero => exact nothing _
          | succ k =>
            refine rel_firstK leaves_bad fun new => ?_
            unfold appendS
            simp only [RV.sliceE]
            refine rel_iteK (rel_iteK (rel_cellsK leaves_bad fun _ => rel_lputK leaves_bad _ _ _ fun _ => leaves_put put_ne) leaves_bad) (rel_iteK (rel_firstK leaves_bad fun old => ?_) leaves_bad)
            cases u with
            | none => exact leaves_new rfl fun _ _ _ => rfl
            | some z => exact rel_iteK (rel_iteK (rel_cellsK leaves_bad fun _ => leaves_new Hp.nx_put put_ne) leaves_bad) leaves_bad
end
end Go.Ref
end
section
namespace Go.Ref
open Go
noncomputable def Rho.cut (ρ : Rho) (k : Nat) : Rho := fun p => if p.num < k then ρ p else Option.none
theorem Rho.cut_lt {ρ : Rho} {k : Nat} {p : Pos} (h : p.num < k) : ρ.cut k p = ρ p := if_pos h
theorem Rho.cut_some {ρ : Rho} {k : Nat} {p : Pos} {b : Blk} (h : ρ.cut k p = some b) : p.num < k ∧ ρ p = some b := by
  unfold Rho.cut at h
  split at h
  · exact ⟨by assumption, h⟩
  · cases h
section
variable {ρ ρ₂ : Rho} {k : Nat}
theorem cut_of (h₂ : ∀ p b, ρ₂ p = some b → p.num < k) {p : Pos} {b b₂ : Blk} (h : ρ p = some b) (k2 : ρ₂ p = some b₂) : ρ.cut k p = some b := by rw [Rho.cut_lt (h₂ _ _ k2)]; exact h
mutual
theorem VR.cut (h₂ : ∀ p b, ρ₂ p = some b → p.num < k) : ∀ (x : RV) (v u : Value), VR ρ x v → VR ρ₂ x u → VR (ρ.cut k) x v
  | .bool b, v, _, h, _ => by simpa only [VR] using h
  | .int _ _, v, _, h, _ => by simpa only [VR] using h
  | .str _, v, _, h, _ => by simpa only [VR] using h
  | .ptr a o, v, _, h, h' => by simp only [VR] at h h' ⊢; obtain ⟨b, hb, hv⟩ := h; obtain ⟨_, hb', _⟩ := h'; exact ⟨b, cut_of h₂ hb hb', hv⟩
  | .nilPtr, v, _, h, _ => by simpa only [VR] using h
  | .slice a o l c u, v, _, h, h' => by simp only [VR] at h h' ⊢; obtain ⟨b, off, c', hb, hv⟩ := h; obtain ⟨_, _, _, hb', _⟩ := h'; exact ⟨b, off, c', cut_of h₂ hb hb', hv⟩
  | .nilSlice, v, _, h, _ => by simpa only [VR] using h
  | .map a, v, _, h, h' => by simp only [VR] at h h' ⊢; obtain ⟨b, hb, hv⟩ := h; obtain ⟨_, hb', _⟩ := h'; exact ⟨b, cut_of h₂ hb hb', hv⟩
  | .nilMap, v, _, h, _ => by simpa only [VR] using h
  | .func fn x y, v, _, h, h' => by
    simp only [VR] at h h' ⊢
    obtain ⟨fa, ca, hv, h1, h2⟩ := h
    obtain ⟨fa', ca', _, h1', h2'⟩ := h'
    exact ⟨fa, ca, hv, VRs.cut h₂ x _ _ h1 h1', VRs.cut h₂ y _ _ h2 h2'⟩
  | .yield a, v, _, h, h' => by simp only [VR] at h h' ⊢; obtain ⟨b, hb, hv⟩ := h; obtain ⟨_, hb', _⟩ := h'; exact ⟨b, cut_of h₂ hb hb', hv⟩
  | .nilFunc, v, _, h, _ => by simpa only [VR] using h
  | .iface t x, v, _, h, h' => by simp only [VR] at h h' ⊢; obtain ⟨y, hv, h1⟩ := h; obtain ⟨y', _, h1'⟩ := h'; exact ⟨y, hv, VR.cut h₂ x _ _ h1 h1'⟩
  | .nilIface, v, _, h, _ => by simpa only [VR] using h
  | .agg l, v, _, h, h' => by simp only [VR] at h h' ⊢; obtain ⟨cs, hv, h1⟩ := h; obtain ⟨cs', _, h1'⟩ := h'; exact ⟨cs, hv, VRs.cut h₂ l _ _ h1 h1'⟩
  | .tuple l, v, _, h, h' => by simp only [VR] at h h' ⊢; obtain ⟨cs, hv, h1⟩ := h; obtain ⟨cs', _, h1'⟩ := h'; exact ⟨cs, hv, VRs.cut h₂ l _ _ h1 h1'⟩
  | .symV a, v, _, h, h' => by simp only [VR] at h h' ⊢; obtain ⟨b, hb, hv⟩ := h; obtain ⟨_, hb', _⟩ := h'; exact ⟨b, cut_of h₂ hb hb', hv⟩
  | .symI a ne, v, _, h, h' => by simp only [VR] at h h' ⊢; obtain ⟨b, n, hb, hv⟩ := h; obtain ⟨_, _, hb', _⟩ := h'; exact ⟨b, n, cut_of h₂ hb hb', hv⟩
  | .symL a j ne, v, _, h, h' => by
    simp only [VR] at h h' ⊢
    obtain ⟨b, bj, A, n, c, hb, hj, hv⟩ := h
    obtain ⟨_, _, _, _, _, hb', hj', _⟩ := h'
    exact ⟨b, bj, A, n, c, cut_of h₂ hb hb', cut_of h₂ hj hj', hv⟩
  | .none, _, _, _, _ => by simp only [VR]
theorem VRs.cut (h₂ : ∀ p b, ρ₂ p = some b → p.num < k) : ∀ (x : List RV) (v u : List Value), VRs ρ x v → VRs ρ₂ x u → VRs (ρ.cut k) x v
  | [], v, _, h, _ => by simpa only [VRs] using h
  | x :: r, l, _, h, h' => by
    simp only [VRs] at h h' ⊢
    obtain ⟨v, l', hl, h1, h2⟩ := h
    obtain ⟨v', l'', _, h1', h2'⟩ := h'
    exact ⟨v, l', hl, VR.cut h₂ x v v' h1 h1', VRs.cut h₂ r l' l'' h2 h2'⟩
end
theorem MRs.cut (h₂ : ∀ p b, ρ₂ p = some b → p.num < k) : ∀ {l : List ME} {v u : List MapEntry}, MRs ρ l v → MRs ρ₂ l u → MRs (ρ.cut k) l v
  | [], _, _, h, _ => h
  | _ :: _, _, _, ⟨e', l', he, h1, h2⟩, ⟨_, _, _, h1', h2'⟩ => ⟨e', l', he, ⟨VR.cut h₂ _ _ _ h1.1 h1'.1, VR.cut h₂ _ _ _ h1.2.1 h1'.2.1, h1.2.2⟩, MRs.cut h₂ h2 h2'⟩
theorem ObjR.cut (h₂ : ∀ p b, ρ₂ p = some b → p.num < k) {o : RO} {b b₂ : Blk} {w w₂ : World} (h : ObjR ρ o b w) (h' : ObjR ρ₂ o b₂ w₂) : ObjR (ρ.cut k) o b w := by
  cases o with
  | dead => trivial
  | cells cs => obtain ⟨c, el, h1, h2, h3, h4⟩ := h; obtain ⟨_, _, _, _, _, h4'⟩ := h'; exact ⟨c, el, h1, h2, h3, VRs.cut h₂ _ _ _ h4 h4'⟩
  | ro cs => obtain ⟨c, el, fz, h1, h2, h3, h4⟩ := h; obtain ⟨_, _, _, _, _, _, h4'⟩ := h'; exact ⟨c, el, fz, h1, h2, h3, VRs.cut h₂ _ _ _ h4 h4'⟩
  | map es clock => obtain ⟨es', h1, h2⟩ := h; obtain ⟨_, _, h2'⟩ := h'; exact ⟨es', h1, MRs.cut h₂ h2 h2'⟩
  | mapIter m since seen stepped =>
    obtain ⟨m', h1, h2, h3⟩ := h
    obtain ⟨m'', _, h2', _⟩ := h'
    refine ⟨m', h1, ?_, h3⟩
    cases m with
    | none => exact h2
    | some a => obtain ⟨b', hb, he⟩ := h2; obtain ⟨b'', hb', _⟩ := h2'; exact ⟨b', cut_of h₂ hb hb', he⟩
  | mapAt a s stepped =>
    obtain ⟨r, since, seen, h1, ⟨b', hb, he⟩, h3⟩ := h
    obtain ⟨_, _, _, _, ⟨b'', hb', _⟩, _⟩ := h'
    exact ⟨r, since, seen, h1, ⟨b', cut_of h₂ hb hb', he⟩, h3⟩
  | loop => exact h.elim
  | deferred => exact h.elim
end
structure Rec where
  t : Tr RV
  m : Hp
  ρ : Rho
  w : World
  tm : Array Value
def Rec.mm (s : Rec) : Hp := ⟨s.m.h, s.m.nx, s.m.nx⟩
theorem Rec.mm_at (s : Rec) (p : Pos) : s.mm.at p = s.m.at p := rfl
theorem Sim.same {ρ : Rho} {m m2 : Hp} {w : World} (h : Sim ρ m w) (h1 : m.h = m2.h) (h2 : m.nx = m2.nx) : Sim ρ m2 w := by
  have hat : ∀ p, m2.at p = m.at p := fun p => by unfold Hp.at; rw [h1]
  exact ⟨fun a b hb => by rw [← h2]; exact h.lt a b hb, fun a b hb hd => h.rlt a b hb (by rwa [hat] at hd), fun a b hb => by rw [hat]; exact h.obj a b hb, fun a b a' b' hb hb' hr hd hd' => h.inj a b a' b' hb hb' hr (by rwa [hat] at hd) (by rwa [hat] at hd')⟩
section
variable (P : Program) (n : Nat) (ops : Array Oper) (call : CallF)
def StepR (o : Oper) (ev : Ev) (s s' : Rec) : Prop :=
  ∃ m1, cOper P n ops o call s.t s.mm = .ok s'.t m1 ∧ m1.h = s'.m.h ∧ m1.nx = s'.m.nx ∧ s'.m.wm.num ≤ s.m.wm.num ∧ (∀ p : Pos, p.num < s.m.nx.num → m1.wm.num ≤ p.num → s'.m.wm.num ≤ p.num) ∧
    Ext s.ρ s.mm s.w s'.ρ m1 s'.w ∧ ((loud o.op = false ∧ ev = .pure) ∨ (loud o.op = true ∧ ev = evOf o.op s.t s.mm m1))
def GoodR (s : Rec) : Prop := Sim s.ρ s.m s.w ∧ TR s.ρ n s.t s.tm
end
section
variable {P : Program} {n : Nat} {ops : Array Oper} {call : CallF} {ps : List (Nat × Nat)}
theorem cDraw_trace (hcall : CallOk P call) : ∀ (os : List Oper) (j : Nat), ops.toList.drop j = os → ∀ (x : Aux) (es : List Ev) (s : Rec), GoodR n s →
    cDraw P n ops ps os call x es s.t s.m = .bad ∨ ∃ (R : Nat → Rec) (E : List Ev), E.length = os.length ∧ R 0 = s ∧ (∀ i, i ≤ os.length → GoodR n (R i)) ∧
      (∀ i o, os[i]? = some o → StepR P n ops call o (E.getD i .all) (R i) (R (i + 1))) ∧ noClash ps (es.reverse ++ E) = true ∧ cDraw P n ops ps os call x es s.t s.m = .norm x (R os.length).t (R os.length).m
  | [], j, _, x, es, s, hs => by
    show (match noClash ps es.reverse with | true => Out.norm x s.t s.m | false => .bad) = .bad ∨ _
    cases hc : noClash ps es.reverse with
    | false => exact .inl rfl
    | true =>
      refine .inr ⟨fun _ => s, [], rfl, rfl, fun _ _ => hs, fun i o h => by simp at h, by simpa using hc, ?_⟩
      show (match noClash ps es.reverse with | true => Out.norm x s.t s.m | false => .bad) = _
      rw [hc]
  | o :: os, j, hj, x, es, s, hs => by
    have ho : ops[j]? = some o := by
      have := congrArg (·[0]?) hj
      simpa using this
    have hj' : ops.toList.drop (j + 1) = os := by
      have := congrArg (List.drop 1) hj
      simpa [Nat.add_comm] using this
    have rest : ∀ (ev : Ev) (t' : Tr RV) (m' m1 : Hp), cOper P n ops o call s.t s.mm = .ok t' m1 → m1.h = m'.h → m1.nx = m'.nx → m'.wm.num ≤ s.m.wm.num → (∀ p : Pos, p.num < s.m.nx.num → m1.wm.num ≤ p.num → m'.wm.num ≤ p.num) →
        ((loud o.op = false ∧ ev = .pure) ∨ (loud o.op = true ∧ ev = evOf o.op s.t s.mm m1)) →
        cDraw P n ops ps (o :: os) call x es s.t s.m = cDraw P n ops ps os call x (ev :: es) t' m' →
        cDraw P n ops ps (o :: os) call x es s.t s.m = .bad ∨ ∃ (R : Nat → Rec) (E : List Ev), E.length = (o :: os).length ∧ R 0 = s ∧ (∀ i, i ≤ (o :: os).length → GoodR n (R i)) ∧
          (∀ i o', (o :: os)[i]? = some o' → StepR P n ops call o' (E.getD i .all) (R i) (R (i + 1))) ∧ noClash ps (es.reverse ++ E) = true ∧ cDraw P n ops ps (o :: os) call x es s.t s.m = .norm x (R (o :: os).length).t (R (o :: os).length).m := by
      intro ev t' m' m1 h1 h2 h3 h4 h5 h6 h7
      have hg := cOper_ok (a := ⟨s.tm, []⟩) (m := s.mm) hcall ho hs.2 (hs.1.same rfl rfl)
      rw [h1] at hg
      obtain ⟨ρ', v, w', _, he, hsim, htr⟩ := hg
      have hs' : GoodR n ⟨t', m', ρ', w', (Act.put ⟨s.tm, []⟩ o.dst v).tmps⟩ := ⟨hsim.same h2 h3, htr⟩
      rcases cDraw_trace hcall os (j + 1) hj' x (ev :: es) _ hs' with hb | ⟨R, E, r1, r2, r3, r4, r5, r6⟩
      · exact .inl (h7.trans hb)
      · refine .inr ⟨fun i => match i with | 0 => s | i + 1 => R i, ev :: E, by simp [r1], rfl, ?_, ?_, ?_, h7.trans r6⟩
        · intro i hi
          cases i with
          | zero => exact hs
          | succ i => exact r3 i (by simpa using hi)
        · intro i o' hi
          cases i with
          | zero =>
            simp at hi; subst hi
            simp only [r2, List.getD_cons_zero]
            exact ⟨m1, h1, h2, h3, h4, h5, he, h6⟩
          | succ i =>
            simp only [List.getD_cons_succ]
            exact r4 i o' (by simpa using hi)
        · simpa using r5
    cases hq : loud o.op with
    | false =>
      have hstep : cDraw P n ops ps (o :: os) call x es s.t s.m = OR.rec (motive := fun _ => Out) .bad (fun t m => cDraw P n ops ps os call x (.pure :: es) t m) (fun _ _ _ => .bad) (cOper P n ops o call s.t s.m) := by
        conv => lhs; unfold cDraw
        simp only [hq]
      cases hr : cOper P n ops o call s.t s.m with
      | bad => exact .inl (by simp only [hstep, hr])
      | dfr => exact .inl (by simp only [hstep, hr])
      | ok t' m' =>
        obtain ⟨v, hv, hm⟩ := oper_quiet (m := s.m) (t2 := s.t) (m2 := s.mm) hq rfl (fun _ _ => rfl) hr
        rw [← hv] at hm
        rcases hm with ⟨hm, h1⟩ | ⟨ro, hm, h1⟩
        · subst hm
          exact rest .pure t' s.m s.mm h1 rfl rfl (Nat.le_refl _) (fun p h1 h2 => absurd h1 (Nat.not_lt.2 h2)) (.inl ⟨hq, rfl⟩) (by simp only [hstep, hr])
        · subst hm
          exact rest .pure t' ⟨Tr.set .dead s.m.nx ro s.m.h, s.m.nx.succ, s.m.wm⟩ _ h1 rfl rfl (Nat.le_refl _) (fun p h1 h2 => absurd h1 (Nat.not_lt.2 h2)) (.inl ⟨hq, rfl⟩) (by simp only [hstep, hr])
    | true =>
      obtain ⟨st, ⟨h, nx, wm⟩, sρ, sw, stm⟩ := s
      have hstep : cDraw P n ops ps (o :: os) call x es st ⟨h, nx, wm⟩ = OR.rec (motive := fun _ => Out) .bad (fun t' m' => cDraw P n ops ps os call x (evOf o.op st ⟨h, nx, nx⟩ m' :: es) t' (match m' with | ⟨h', nx', wm'⟩ => ⟨h', nx', Pos.min wm wm'⟩)) (fun _ _ _ => .bad) (cOper P n ops o call st ⟨h, nx, nx⟩) := by
        conv => lhs; unfold cDraw
        simp only [hq]
      cases hr : cOper P n ops o call st ⟨h, nx, nx⟩ with
      | bad => exact .inl (by simp only [hstep, hr])
      | dfr => exact .inl (by simp only [hstep, hr])
      | ok t' m' =>
        obtain ⟨h', nx', wm'⟩ := m'
        refine rest (evOf o.op st ⟨h, nx, nx⟩ ⟨h', nx', wm'⟩) t' ⟨h', nx', Pos.min wm wm'⟩ ⟨h', nx', wm'⟩ hr rfl rfl ?_ ?_ (.inr ⟨hq, rfl⟩) (by simp only [hstep, hr])
        · show (Pos.min wm wm').num ≤ wm.num
          rw [Pos.num_min]; omega
        · intro p _ h2
          show (Pos.min wm wm').num ≤ p.num
          have h2 : wm'.num ≤ p.num := h2
          rw [Pos.num_min]; omega
end
def maskFold (acc : List Nat) (o : Oper) : Nat := o.after.toList.foldl (fun s e => if Region.binds .any e then s ||| 2 ^ e.on ||| acc.getD e.on 0 else s) 0
theorem masks_cons (o : Oper) (os : List Oper) (acc : List Nat) : masks (o :: os) acc = masks os (acc ++ [maskFold acc o]) := rfl
theorem masks_spec : ∀ (os : List Oper) (acc : List Nat), ∃ rest, masks os acc = acc ++ rest ∧ rest.length = os.length ∧ ∀ j o, os[j]? = some o → (masks os acc)[acc.length + j]? = some (maskFold ((masks os acc).take (acc.length + j)) o)
  | [], acc => ⟨[], by simp [masks], rfl, fun j o h => by simp at h⟩
  | o :: os, acc => by
    obtain ⟨rest, h1, h2, h3⟩ := masks_spec os (acc ++ [maskFold acc o])
    refine ⟨maskFold acc o :: rest, by rw [masks_cons, h1]; simp, by simp [h2], fun j o' hj => ?_⟩
    rw [masks_cons]
    cases j with
    | zero =>
      simp at hj; subst hj
      rw [h1]
      simp
    | succ j =>
      have := h3 j o' (by simpa using hj)
      simp only [List.length_append, List.length_cons, List.length_nil] at this
      rw [show acc.length + (j + 1) = acc.length + (0 + 1) + j from by omega]
      exact this
theorem foldl_bits (acc : List Nat) (i : Nat) : ∀ (es : List Edge) (s : Nat), Nat.testBit (es.foldl (fun s e => if Region.binds .any e then s ||| 2 ^ e.on ||| acc.getD e.on 0 else s) s) i = true →
    Nat.testBit s i = true ∨ ∃ e ∈ es, Region.binds .any e = true ∧ (i = e.on ∨ Nat.testBit (acc.getD e.on 0) i = true)
  | [], s, h => .inl h
  | e :: es, s, h => by
    rw [List.foldl_cons] at h
    rcases foldl_bits acc i es _ h with h | ⟨e', he, h⟩
    · by_cases hb : Region.binds .any e = true
      · rw [if_pos hb, Nat.testBit_or, Nat.testBit_or, Bool.or_eq_true, Bool.or_eq_true] at h
        rcases h with (h | h) | h
        · exact .inl h
        · refine .inr ⟨e, by simp, hb, .inl ?_⟩
          rw [Nat.testBit_two_pow] at h
          exact (of_decide_eq_true h).symm
        · exact .inr ⟨e, by simp, hb, .inr h⟩
      · rw [if_neg hb] at h; exact .inl h
    · exact .inr ⟨e', by simp [he], h⟩
def Ahead (ops : Array Oper) (i j : Nat) : Prop := Nat.testBit ((masks ops.toList []).getD j 0) i = true
theorem ahead_edge {ops : Array Oper} {j : Nat} {o : Oper} (ho : ops[j]? = some o) {i : Nat} (h : Ahead ops i j) : ∃ e ∈ o.after, Region.binds .any e = true ∧ (i = e.on ∨ Ahead ops i e.on) := by
  obtain ⟨rest, h1, h2, h3⟩ := masks_spec ops.toList []
  have hj := h3 j o (by simpa using ho)
  simp only [List.length_nil, Nat.zero_add] at hj
  unfold Ahead at h
  rw [List.getD_eq_getElem?_getD, hj, Option.getD_some] at h
  rcases foldl_bits _ i _ _ h with h | ⟨e, he, hb, h⟩
  · simp at h
  · refine ⟨e, by simpa using he, hb, h.imp id fun h => ?_⟩
    unfold Ahead
    rw [List.getD_eq_getElem?_getD, List.getElem?_take] at h
    split at h
    · rw [List.getD_eq_getElem?_getD]; exact h
    · simp at h
theorem edgesOk_spec {ops : Array Oper} (h : edgesOk ops.toList = true) {j : Nat} {o : Oper} (ho : ops[j]? = some o) : ∀ e ∈ o.after, Region.binds .any e = true → e.on < j := by
  unfold edgesOk at h
  rw [List.all_eq_true] at h
  have := h (o, j) (List.mem_iff_getElem?.2 ⟨j, by simp [ho]⟩)
  simp only [Array.all_eq_true_iff_forall_mem] at this
  intro e he hb
  have := this e he
  simpa [hb, Nat.blt_eq] using this
theorem evAt_eq : ∀ (i : Nat) (l : List Ev), evAt i l = l.getD i .all
  | 0, [] => rfl
  | 0, _ :: _ => rfl
  | _ + 1, [] => rfl
  | i + 1, _ :: l => (evAt_eq i l).trans (by simp)
theorem noClash_spec {l : List Ev} : ∀ {ps : List (Nat × Nat)}, noClash ps l = true → ∀ p ∈ ps, clash (l.getD p.1 .all) (l.getD p.2 .all) = false
  | [], _, p, hp => by simp at hp
  | q :: ps, h, p, hp => by
    have h' : (match clash (evAt q.1 l) (evAt q.2 l) with | true => false | false => noClash ps l) = true := h
    cases hc : clash (evAt q.1 l) (evAt q.2 l) with
    | true => rw [hc] at h'; cases h'
    | false =>
      rw [hc] at h'
      rcases List.mem_cons.1 hp with rfl | hp
      · rw [← evAt_eq, ← evAt_eq]; exact hc
      · exact noClash_spec h' p hp
theorem pairsOf_spec {ops : Array Oper} {ps : List (Nat × Nat)} (h : pairsOf ops = some ps) : edgesOk ops.toList = true ∧
    ∀ i j oi oj, i < j → ops[i]? = some oi → ops[j]? = some oj → ¬ Ahead ops i j → oi.apart ops oj = true ∧ (loud oi.op = true → loud oj.op = true → (i, j) ∈ ps) := by
  unfold pairsOf at h
  simp only [] at h
  split at h
  · rename_i hc
    simp only [Bool.and_eq_true] at hc
    cases h
    refine ⟨hc.1.1, fun i j oi oj hij hi hj hna => ?_⟩
    have hmem : ((oi, i), (oj, j)) ∈ (ops.toList.zipIdx.flatMap fun p => (ops.toList.zipIdx.filter fun q => Nat.blt q.2 p.2 && !Nat.testBit ((masks ops.toList []).getD p.2 0) q.2).map fun q => (q, p)) := by
      refine List.mem_flatMap.2 ⟨(oj, j), List.mem_iff_getElem?.2 ⟨j, by simp [hj]⟩, List.mem_map.2 ⟨(oi, i), List.mem_filter.2 ⟨List.mem_iff_getElem?.2 ⟨i, by simp [hi]⟩, ?_⟩, rfl⟩⟩
      unfold Ahead at hna
      simp only [Bool.not_eq_true, List.getD_eq_getElem?_getD] at hna
      simp [Nat.blt_eq, hij, hna]
    have hall := List.all_eq_true.1 hc.1.2 _ hmem
    refine ⟨hall, fun h1 h2 => List.mem_map.2 ⟨_, List.mem_filter.2 ⟨hmem, by simp [h1, h2]⟩, rfl⟩⟩
  · cases h
end Go.Ref
end
section
namespace Go.Ref
open Go
theorem watch_cases (m m' : Hp) : watch m m' = .all ∨ (watch m m' = .other ∧ m.nx.num ≤ m'.wm.num) := by
  unfold watch
  rw [Pos.lt_spec]
  by_cases h : m'.wm.num < m.nx.num
  · simp [h]
  · simp [h]; omega
theorem evOf_cases (op : Op) (t : Tr RV) (m m' : Hp) : (∃ ty x q off, op = .load ty x ∧ cOpd x t = .ptr q off ∧ evOf op t m m' = .load q) ∨ evOf op t m m' = .all ∨ (∃ q, evOf op t m m' = .wr q) ∨
    (evOf op t m m' = .other ∧ m.nx.num ≤ m'.wm.num) := by
  have hw : ∀ {e : Ev}, e = watch m m' → e = .all ∨ (∃ q, e = .wr q) ∨ (e = .other ∧ m.nx.num ≤ m'.wm.num) := by
    intro e he
    subst he
    rcases watch_cases m m' with h | h
    · exact .inl h
    · exact .inr (.inr h)
  cases op <;> try exact .inr (hw rfl)
  case load ty x =>
    unfold evOf
    simp only []
    cases hx : cOpd x t <;> try exact .inr (hw rfl)
    exact .inl ⟨_, _, _, _, rfl, hx, rfl⟩
  case store ty x v =>
    unfold evOf
    simp only []
    cases hx : cOpd x t <;> try exact .inr (hw rfl)
    exact .inr (.inr (.inl ⟨_, rfl⟩))
  case call c =>
    obtain ⟨callee, args, argTypes⟩ := c
    obtain ⟨args⟩ := args
    cases callee with
    | value f => exact .inr (hw rfl)
    | invoke r nm => exact .inr (hw rfl)
    | builtin b =>
      cases b <;> try exact .inr (hw rfl)
      cases args with
      | nil => exact .inr (hw rfl)
      | cons x rest =>
        have he : evOf (.call ⟨.builtin .append, ⟨x :: rest⟩, argTypes⟩) t m m' = (match cOpd x t with | .slice a _ _ _ _ => Ev.wr a | _ => watch m m') := rfl
        rw [he]
        cases hx : cOpd x t <;> try exact .inr (hw rfl)
        exact .inr (.inr (.inl ⟨_, rfl⟩))
theorem beq_comm (p q : Pos) : p.beq q = q.beq p := by
  rw [Bool.eq_iff_iff, Pos.beq_spec, Pos.beq_spec]
  exact eq_comm
theorem clash_comm (a b : Ev) : clash a b = clash b a := by
  cases a <;> cases b <;> first | rfl | exact beq_comm _ _ | exact (beq_comm _ _).symm
theorem clash_wr {a : Ev} {p : Pos} (ha : a = .all ∨ a = .other ∨ a = .load p ∨ ∃ q, a = .wr q) {b : Ev} (hb : b = .all ∨ b = .wr p) : clash a b = true := by
  have hpp : p.beq p = true := (Pos.beq_spec p p).2 rfl
  rcases ha with rfl | rfl | rfl | ⟨q, rfl⟩ <;> rcases hb with rfl | rfl <;> first | rfl | exact hpp
section
variable (P : Program) (n : Nat) (ops : Array Oper) (call : CallF) (R : Nat → Rec) (E : Nat → Ev)
structure Tra : Prop where
  good : ∀ i, i ≤ ops.size → GoodR n (R i)
  step : ∀ i o, ops[i]? = some o → StepR P n ops call o (E i) (R i) (R (i + 1))
  edges : ∀ j o, ops[j]? = some o → ∀ e ∈ o.after, Region.binds .any e = true → e.on < j
  pair : ∀ i j oi oj, i < j → ops[i]? = some oi → ops[j]? = some oj → ¬ Ahead ops i j → oi.apart ops oj = true ∧ (loud oi.op = true → loud oj.op = true → clash (E i) (E j) = false)
def Touch (y : Nat) (p : Pos) : Prop := p.num < (R y).m.nx.num ∧ (R (y + 1)).m.at p ≠ (R y).m.at p
def Made (y : Nat) (p : Pos) : Prop := (R y).m.nx.num ≤ p.num ∧ p.num < (R (y + 1)).m.nx.num
end
section
variable {P : Program} {n : Nat} {ops : Array Oper} {call : CallF} {R : Nat → Rec} {E : Nat → Ev}
theorem get_op {ops : Array Oper} {i : Nat} (h : i < ops.size) : ∃ o, ops[i]? = some o := ⟨ops[i], Array.getElem?_eq_getElem h⟩
theorem Tra.nx_le (T : Tra P n ops call R E) {i k : Nat} (h : i ≤ k) (hk : k ≤ ops.size) : (R i).m.nx.num ≤ (R k).m.nx.num := by
  induction h with
  | refl => exact Nat.le_refl _
  | @step k h ih =>
    obtain ⟨o, ho⟩ := get_op (ops := ops) (i := k) hk
    obtain ⟨m1, h1, h2, h3, h4, h5, h6, h7⟩ := T.step k o ho
    have := h6.nx
    rw [h3] at this
    exact Nat.le_trans (ih (by omega)) this
theorem Tra.wm_le (T : Tra P n ops call R E) {i k : Nat} (h : i ≤ k) (hk : k ≤ ops.size) : (R k).m.wm.num ≤ (R i).m.wm.num := by
  induction h with
  | refl => exact Nat.le_refl _
  | @step k h ih =>
    obtain ⟨o, ho⟩ := get_op (ops := ops) (i := k) hk
    obtain ⟨m1, h1, h2, h3, h4, h5, h6, h7⟩ := T.step k o ho
    exact Nat.le_trans h4 (ih (by omega))
theorem Tra.sub (T : Tra P n ops call R E) {i k : Nat} (h : i ≤ k) (hk : k ≤ ops.size) : (R i).ρ.sub (R k).ρ := by
  induction h with
  | refl => exact .refl _
  | @step k h ih =>
    obtain ⟨o, ho⟩ := get_op (ops := ops) (i := k) hk
    obtain ⟨m1, h1, h2, h3, h4, h5, h6, h7⟩ := T.step k o ho
    exact (ih (by omega)).trans h6.sub
theorem Tra.made (T : Tra P n ops call R E) {j k : Nat} {p : Pos} (h : Made R j p) (hj : j < k) (hk : k ≤ ops.size) : ∃ b, (R k).ρ p = some b := by
  obtain ⟨o, ho⟩ := get_op (ops := ops) (i := j) (by omega)
  obtain ⟨m1, h1, h2, h3, h4, h5, h6, h7⟩ := T.step j o ho
  obtain ⟨b, hb⟩ := h6.all p h.1 (by rw [h3]; exact h.2)
  exact ⟨b, T.sub (i := j + 1) hj hk _ _ hb⟩
theorem at_h {m m' : Hp} (h : m.h = m'.h) (p : Pos) : m.at p = m'.at p := by unfold Hp.at; rw [h]
theorem Tra.dead (T : Tra P n ops call R E) {p : Pos} {b : Blk} (hp : (R 0).ρ p = some b) (hd : ¬ ((R 0).m.at p).wr) : ∀ k, k ≤ ops.size → (R k).m.at p = (R 0).m.at p
  | 0, _ => rfl
  | k + 1, hk => by
    obtain ⟨o, ho⟩ := get_op (ops := ops) (i := k) hk
    obtain ⟨m1, h1, h2, h3, h4, h5, h6, h7⟩ := T.step k o ho
    have ih := T.dead hp hd k (by omega)
    rw [← at_h h2, h6.dead p b (T.sub (Nat.zero_le _) (by omega) _ _ hp) (by rw [Rec.mm_at, ih]; exact hd), Rec.mm_at, ih]
theorem Tra.keep (T : Tra P n ops call R E) {p : Pos} {i k : Nat} (h : i ≤ k) (hk : k ≤ ops.size) (hp : p.num < (R i).m.nx.num) (ht : ∀ y, i ≤ y → y < k → ¬ Touch R y p) : (R k).m.at p = (R i).m.at p := by
  induction h with
  | refl => rfl
  | @step k h ih =>
    rw [← ih (by omega) fun y h1 h2 => ht y h1 (by omega)]
    refine Classical.byContradiction fun hne => ht k h (Nat.lt_succ_self _) ⟨Nat.lt_of_lt_of_le hp (T.nx_le h (by omega)), hne⟩
theorem Tra.keepT (T : Tra P n ops call R E) {d : Nat} {i k : Nat} (h : i ≤ k) (hk : k ≤ ops.size) (ht : ∀ y o, i ≤ y → y < k → ops[y]? = some o → o.dst ≠ some d) : Tr.get undef (path d) (R k).t = Tr.get undef (path d) (R i).t := by
  induction h with
  | refl => rfl
  | @step k h ih =>
    rw [← ih (by omega) fun y o h1 h2 => ht y o h1 (by omega)]
    obtain ⟨o, ho⟩ := get_op (ops := ops) (i := k) hk
    obtain ⟨m1, h1, _⟩ := T.step k o ho
    obtain ⟨v, hv, _⟩ := oper_two (t2 := (R k).t) (fun _ _ => rfl) h1
    rw [hv, setd_get (ht k o h (Nat.lt_succ_self _) ho)]
theorem Tra.touch (T : Tra P n ops call R E) {y : Nat} {o : Oper} (ho : ops[y]? = some o) {p : Pos} (h : Touch R y p) : loud o.op = true ∧ (E y = .all ∨ E y = .wr p) := by
  obtain ⟨m1, h1, h2, h3, h4, h5, h6, h7⟩ := T.step y o ho
  have hne : m1.at p ≠ (R y).mm.at p := by rw [at_h h2, Rec.mm_at]; exact h.2
  have hlt : p.num < (R y).mm.nx.num := h.1
  rcases h7 with ⟨hq, he⟩ | ⟨hq, he⟩
  · exfalso
    obtain ⟨v, hv, hm⟩ := oper_quiet (t2 := (R y).t) (m := (R y).mm) (m2 := (R y).mm) hq rfl (fun _ _ => rfl) h1
    rcases hm with ⟨hm, _⟩ | ⟨ro, hm, _⟩
    · exact hne (by rw [hm])
    · refine hne ?_
      rw [hm]
      unfold Hp.at
      refine Tr.get_set_ne ?_ _ _
      rintro rfl
      exact Nat.lt_irrefl _ hlt
  · refine ⟨hq, ?_⟩
    rw [he]
    rcases evOf_cases o.op (R y).t (R y).mm m1 with ⟨ty, x, q, off, ho', hx, hev⟩ | hev | ⟨q, hev⟩ | ⟨hev, hw⟩
    · exact absurd (by rw [(oper_load (t2 := (R y).t) (m2 := (R y).mm) ho' hx (fun _ _ => rfl) h1 rfl).1]) hne
    · exact .inl hev
    · right
      rw [hev]
      by_cases hpq : p = q
      · rw [hpq]
      · exact absurd (oper_wr hev h1 p hpq hlt) hne
    · exact absurd (h6.rframe p hlt (.inr (Nat.lt_of_lt_of_le hlt hw))) hne
structure Inv (n : Nat) (ops : Array Oper) (R : Nat → Rec) (a₀ : Act) (S : Nat → Prop) (ρ : Rho) (V : Pos → RO) (a : Act) (w : World) : Prop where
  closed : ∀ j, j < ops.size → S j → ∀ i, Ahead ops i j → S i
  sub : (R 0).ρ.sub ρ
  dom : ∀ p b, ρ p = some b → (R 0).ρ p = some b ∨ ((R 0).ρ p = Option.none ∧ ∃ j, j < ops.size ∧ S j ∧ Made R j p)
  has : ∀ p j, j < ops.size → S j → Made R j p → ∃ b, ρ p = some b
  rlt : ∀ p b, ρ p = some b → V p ≠ .dead → b.r < w.heap.size
  obj : ∀ p b, ρ p = some b → ObjR ρ (V p) b w
  inj : ∀ p b p' b', ρ p = some b → ρ p' = some b' → b.r = b'.r → (V p).wr → V p' ≠ .dead → p = p'
  view : ∀ p b, ρ p = some b → ∀ i, i ≤ ops.size → p.num < (R i).m.nx.num → (∀ y, y < ops.size → Touch R y p → (S y ↔ y < i)) → V p = (R i).m.at p
  touch : ∀ y, y < ops.size → S y → ∀ p, Touch R y p → ∃ b, ρ p = some b
  size : a.tmps.size = n
  tmp : ∀ d i, i ≤ ops.size → (∀ y o, ops[y]? = some o → o.dst = some d → (S y ↔ y < i)) → VR ρ (Tr.get undef (path d) (R i).t) (a.tmps.getD d Go.undef)
  defers : a.defers = a₀.defers
  new : ∀ p b, ρ p = some b → (R 0).ρ p = Option.none → (R 0).w.heap.size ≤ b.r ∨ ∃ p₀ b₀, (R 0).ρ p₀ = some b₀ ∧ b₀.r = b.r ∧ ((R 0).m.at p₀).wr ∧ (R ops.size).m.wm.num ≤ p₀.num
  wsize : (R 0).w.heap.size ≤ w.heap.size
  frame : ∀ r, r < (R 0).w.heap.size → (∀ p b, (R 0).ρ p = some b → b.r = r → ((R 0).m.at p).wr → p.num < (R ops.size).m.wm.num) → w.heap[r]? = (R 0).w.heap[r]?
  os : w.os = (R 0).w.os
  tape : w.tape = (R 0).w.tape
  output : w.output = (R 0).w.output
section
variable {a₀ : Act} {S : Nat → Prop} {ρ : Rho} {V : Pos → RO} {a : Act} {w : World} {x : Nat} {o : Oper}
theorem Inv.order (T : Tra P n ops call R E) (I : Inv n ops R a₀ S ρ V a w) (ho : ops[x]? = some o) (hx : ¬ S x) (hp : ∀ i, Ahead ops i x → S i) {y : Nat} {oy : Oper} (hy : ops[y]? = some oy) :
    (S y ↔ y < x) ∨ ((∀ d, oy.dst = some d → d ∉ o.looksAt ops ∧ o.dst ≠ some d) ∧ (loud o.op = true → loud oy.op = true → clash (E x) (E y) = false)) := by
  have hylt : y < ops.size := (Array.getElem?_eq_some_iff.1 hy).1
  rcases Nat.lt_trichotomy y x with h | h | h
  · by_cases hs : S y
    · exact .inl ⟨fun _ => h, fun _ => hs⟩
    · obtain ⟨h1, h2⟩ := T.pair y x oy o h hy ho fun ha => hs (hp _ ha)
      obtain ⟨s1, s2, s3⟩ := Oper.apart_spec h1
      exact .inr ⟨fun d hd => ⟨s1 d hd, s2 d hd⟩, fun l1 l2 => by rw [clash_comm]; exact h2 l2 l1⟩
  · subst h
    exact .inl ⟨fun hs => absurd hs hx, fun h => absurd h (Nat.lt_irrefl _)⟩
  · by_cases hs : S y
    · obtain ⟨h1, h2⟩ := T.pair x y o oy h ho hy fun ha => hx (I.closed y hylt hs x ha)
      obtain ⟨s1, s2, s3⟩ := Oper.apart_spec h1
      exact .inr ⟨fun d hd => ⟨s3 d hd, fun e => s2 d e hd⟩, h2⟩
    · exact .inl ⟨fun h' => absurd h' hs, fun h' => absurd h' (by omega)⟩
theorem Inv.see (T : Tra P n ops call R E) (I : Inv n ops R a₀ S ρ V a w) (ho : ops[x]? = some o) (hx : ¬ S x) (hp : ∀ i, Ahead ops i x → S i) (hl : loud o.op = true) {p : Pos} {b : Blk} (hb : ρ p = some b) (hlt : p.num < (R x).m.nx.num)
    (he : E x = .all ∨ E x = .other ∨ E x = .load p ∨ ∃ q, E x = .wr q) : V p = (R x).m.at p := by
  have hxlt : x < ops.size := (Array.getElem?_eq_some_iff.1 ho).1
  refine I.view p b hb x (by omega) hlt fun y hy ht => ?_
  obtain ⟨oy, hoy⟩ := get_op hy
  obtain ⟨h1, h2⟩ := T.touch hoy ht
  rcases I.order T ho hx hp hoy with h | ⟨_, h⟩
  · exact h
  · have := h hl h1
    rw [clash_wr he h2] at this
    cases this
theorem wipe_get : ∀ (l : List Pos) (t : Tr RV) (p : Pos), Tr.get undef p (wipe l t) = (open Classical in if p ∈ l then RV.none else Tr.get undef p t)
  | [], t, p => by rw [if_neg (by simp)]; rfl
  | q :: l, t, p => by
    show Tr.get undef p (wipe l (Tr.set undef q .none t)) = _
    rw [wipe_get l]
    by_cases h1 : p ∈ l
    · rw [if_pos h1, if_pos (by simp [h1])]
    · rw [if_neg h1]
      by_cases h2 : p = q
      · subst h2; rw [Tr.get_set, if_pos (by simp)]
      · rw [Tr.get_set_ne h2, if_neg (by simp [h1, h2])]
theorem Inv.temps (T : Tra P n ops call R E) (I : Inv n ops R a₀ S ρ V a w) (ho : ops[x]? = some o) (hx : ¬ S x) (hp : ∀ i, Ahead ops i x → S i) :
    ∃ t2, Agree ops o (R x).t t2 ∧ TR (ρ.cut (R x).m.nx.num) n t2 a.tmps := by
  have hxlt : x < ops.size := (Array.getElem?_eq_some_iff.1 ho).1
  let W : List Pos := ((ops.toList.filterMap (·.dst)).filter fun d => !(o.looksAt ops).contains d).map path
  have hW : ∀ d, path d ∈ W ↔ (∃ oy ∈ ops.toList, oy.dst = some d) ∧ d ∉ o.looksAt ops := by
    intro d
    show path d ∈ List.map path _ ↔ _
    rw [List.mem_map]
    constructor
    · rintro ⟨d', h1, h2⟩
      have := path_inj h2
      subst this
      rw [List.mem_filter] at h1
      obtain ⟨h1, h3⟩ := h1
      obtain ⟨oy, h4, h5⟩ := List.mem_filterMap.1 h1
      exact ⟨⟨oy, h4, h5⟩, by simpa using h3⟩
    · rintro ⟨⟨oy, h4, h5⟩, h3⟩
      exact ⟨d, List.mem_filter.2 ⟨List.mem_filterMap.2 ⟨oy, h4, h5⟩, by simpa using h3⟩, rfl⟩
  refine ⟨wipe W (R x).t, fun d hd => ?_, I.size, fun d => ?_⟩
  · rw [wipe_get, if_neg]
    intro h
    exact ((hW d).1 h).2 hd
  · rw [wipe_get]
    by_cases hd : path d ∈ W
    · rw [if_pos hd]; simp only [VR]
    · rw [if_neg hd]
      have hv := I.tmp d x (by omega) fun y oy hy hdst => by
        rcases I.order T ho hx hp hy with h | ⟨h, _⟩
        · exact h
        · exact absurd ((hW d).2 ⟨⟨oy, List.mem_iff_getElem?.2 ⟨y, by simpa using hy⟩, hdst⟩, (h d hdst).1⟩) hd
      obtain ⟨hsim, htr⟩ := T.good x (by omega)
      exact VR.cut hsim.lt _ _ _ hv (htr.2 d)
end
end
end Go.Ref
end
section
namespace Go.Ref
open Go
section
variable {P : Program} {n : Nat} {ops : Array Oper} {call : CallF} {R : Nat → Rec} {E : Nat → Ev}
variable {a₀ : Act} {S : Nat → Prop} {ρ : Rho} {V : Pos → RO} {a : Act} {w : World} {x : Nat} {o : Oper}
open Classical in
theorem Inv.apply (hcall : CallOk P call) (T : Tra P n ops call R E) (I : Inv n ops R a₀ S ρ V a w) (ho : ops[x]? = some o) (hx : ¬ S x) (hp : ∀ i, Ahead ops i x → S i) {t2 : Tr RV} (ht2 : TR (ρ.cut (R x).m.nx.num) n t2 a.tmps) {m2 m3 : Hp} {v : RV}
    (hm2 : Sim (ρ.cut (R x).m.nx.num) m2 w) (hnx : m2.nx = (R x).m.nx) (hrun : cOper P n ops o call t2 m2 = .ok (setd o.dst v t2) m3) (hT : (R (x + 1)).t = setd o.dst v (R x).t) (hnx3 : m3.nx = (R (x + 1)).m.nx)
    (hmade : ∀ p, Made R x p → m3.at p = (R (x + 1)).m.at p)
    (hkind : ((R x).m.nx.num ≤ m3.wm.num ∧ ∀ p, ¬ Touch R x p) ∨ ((∀ p, m2.at p = (R x).m.at p) ∧ (∀ p, m3.at p = (R (x + 1)).m.at p) ∧ (∀ p b, ρ p = some b → p.num < (R x).m.nx.num → V p = (R x).m.at p) ∧
      ∀ p : Pos, p.num < (R x).m.nx.num → m3.wm.num ≤ p.num → (R (x + 1)).m.wm.num ≤ p.num)) :
    ∃ ρ' V' v' w', StepOp P ops x a w (a.put o.dst v') w' ∧ Inv n ops R a₀ (fun j => S j ∨ j = x) ρ' V' (a.put o.dst v') w' := by
  have hxlt : x < ops.size := (Array.getElem?_eq_some_iff.1 ho).1
  have hg := cOper_ok hcall ho ht2 hm2
  rw [hrun] at hg
  obtain ⟨ρ1, v', w', hstep, he, hs1, ht1⟩ := hg
  have hK0 : (R 0).m.nx.num ≤ (R x).m.nx.num := T.nx_le (Nat.zero_le _) (by omega)
  have hKK : (R x).m.nx.num ≤ (R (x + 1)).m.nx.num := T.nx_le (Nat.le_succ _) hxlt
  have h0lt : ∀ p b, (R 0).ρ p = some b → p.num < (R 0).m.nx.num := (T.good 0 (Nat.zero_le _)).1.lt
  have hcut1 : ∀ p b, ρ p = some b → p.num < (R x).m.nx.num → ρ1 p = some b := fun p b h1 h2 => he.sub _ _ (by rw [Rho.cut_lt h2]; exact h1)
  have h1cut : ∀ p b, ρ1 p = some b → p.num < (R x).m.nx.num → ρ p = some b := by
    intro p b h1 h2
    cases hc : ρ.cut (R x).m.nx.num p with
    | some b' =>
      have := he.sub _ _ hc
      rw [h1] at this; cases this
      exact (Rho.cut_some hc).2
    | none =>
      have := (he.new p b h1 hc).1
      rw [hnx] at this; omega
  have h1lt : ∀ p b, ρ1 p = some b → p.num < (R (x + 1)).m.nx.num := fun p b h => by have := hs1.lt p b h; rwa [hnx3] at this
  have hnm : ∀ p b, ρ p = some b → ¬ Made R x p := by
    intro p b hb hm
    rcases I.dom p b hb with h | ⟨_, j, hj, hSj, hmj⟩
    · have := h0lt p b h
      exact absurd hm.1 (by omega)
    · rcases Nat.lt_trichotomy j x with h | h | h
      · have := T.nx_le (i := j + 1) (k := x) h (by omega)
        have h1 := hmj.2; have h2 := hm.1; omega
      · subst h; exact hx hSj
      · have := T.nx_le (i := x + 1) (k := j) h (by omega)
        have h1 := hmj.1; have h2 := hm.2; omega
  let ρ' : Rho := fun p => if Made R x p then ρ1 p else ρ p
  let V' : Pos → RO := fun p => if Made R x p ∨ Touch R x p then (R (x + 1)).m.at p else V p
  have hρ'm : ∀ p, Made R x p → ρ' p = ρ1 p := fun p h => if_pos h
  have hρ'n : ∀ p, ¬ Made R x p → ρ' p = ρ p := fun p h => if_neg h
  have hV'm : ∀ p, Made R x p ∨ Touch R x p → V' p = (R (x + 1)).m.at p := fun p h => if_pos h
  have hV'n : ∀ p, ¬ Made R x p → ¬ Touch R x p → V' p = V p := fun p h1 h2 => if_neg (fun h => h.elim h1 h2)
  have hsub : ρ.sub ρ' := fun p b h => by rw [hρ'n p (hnm p b h)]; exact h
  have hsub1 : ρ1.sub ρ' := by
    intro p b h
    by_cases hm : Made R x p
    · rw [hρ'm p hm]; exact h
    · rw [hρ'n p hm]
      refine h1cut p b h ?_
      have := h1lt p b h
      refine Classical.byContradiction fun hc => hm ⟨by omega, this⟩
  have hcn : ∀ p, Made R x p → ρ.cut (R x).m.nx.num p = Option.none := fun p hm => if_neg (by have := hm.1; omega)
  have htlt : ∀ p, Touch R x p → p.num < (R x).m.nx.num := fun p h => h.1
  have hcutV : (∀ p, ¬ Touch R x p) ∨ ∀ p b, ρ p = some b → p.num < (R x).m.nx.num → V' p = m3.at p := by
    rcases hkind with ⟨_, h⟩ | ⟨k1, k2, k3, k4⟩
    · exact .inl h
    · refine .inr fun p b hb hlt => ?_
      by_cases ht : Touch R x p
      · rw [hV'm p (.inr ht), k2]
      · rw [hV'n p (hnm p b hb) ht, k3 p b hb hlt, k2]
        refine Classical.byContradiction fun hne => ht ⟨hlt, fun e => hne e.symm⟩
  have htw : ∀ p b, ρ p = some b → Touch R x p → (V p).wr := by
    intro p b hb ht
    rcases hkind with ⟨_, h⟩ | ⟨k1, k2, k3, k4⟩
    · exact absurd ht (h p)
    · have hlt := htlt p ht
      rw [k3 p b hb hlt, ← k1]
      refine Classical.byContradiction fun hd => ht.2 ?_
      rw [← k2, ← k1]
      exact he.dead p b (by rw [Rho.cut_lt hlt]; exact hb) hd
  have hlive : ∀ p b, ρ p = some b → V' p ≠ .dead → V p ≠ .dead := by
    intro p b hb hv
    by_cases ht : Touch R x p
    · exact (htw p b hb ht).ne
    · rwa [hV'n p (hnm p b hb) ht] at hv
  have hwrb : ∀ p b, ρ p = some b → (V' p).wr → (V p).wr := by
    intro p b hb hv
    by_cases ht : Touch R x p
    · exact htw p b hb ht
    · rwa [hV'n p (hnm p b hb) ht] at hv
  have hwr : ∀ p₀ b₀, ρ.cut (R x).m.nx.num p₀ = some b₀ → (m2.at p₀).wr → m3.wm.num ≤ p₀.num → p₀.num < (R x).m.nx.num ∧ ρ p₀ = some b₀ ∧ (V p₀).wr ∧ ((R x).m.at p₀).wr ∧ (R ops.size).m.wm.num ≤ p₀.num ∧ (∀ p, m3.at p = (R (x + 1)).m.at p) := by
    intro p₀ b₀ hc hd hw
    obtain ⟨hlt, hb⟩ := Rho.cut_some hc
    rcases hkind with ⟨h, _⟩ | ⟨k1, k2, k3, k4⟩
    · omega
    · have hv : ((R x).m.at p₀).wr := by rw [← k1]; exact hd
      refine ⟨hlt, hb, by rw [k3 p₀ b₀ hb hlt]; exact hv, hv, ?_, k2⟩
      exact Nat.le_trans (T.wm_le (i := x + 1) hxlt (Nat.le_refl _)) (k4 p₀ hlt hw)
  have hwr' : ∀ p₀ b₀, ρ.cut (R x).m.nx.num p₀ = some b₀ → (m2.at p₀).wr → m3.wm.num ≤ p₀.num → ∀ p b, ρ p = some b → p.num < (R x).m.nx.num → V' p = m3.at p := by
    intro p₀ b₀ hc hd hw
    rcases hkind with ⟨h, _⟩ | ⟨k1, k2, k3, k4⟩
    · have := (Rho.cut_some hc).1; omega
    · intro p b hb hlt
      by_cases ht : Touch R x p
      · rw [hV'm p (.inr ht), k2]
      · rw [hV'n p (hnm p b hb) ht, k3 p b hb hlt, k2]
        exact Classical.byContradiction fun hne => ht ⟨hlt, fun e => hne e.symm⟩
  have hfresh : ∀ p b, ρ1 p = some b → Made R x p → w.heap.size ≤ b.r ∨ ∃ p₀ b₀, ρ.cut (R x).m.nx.num p₀ = some b₀ ∧ b₀.r = b.r ∧ (m2.at p₀).wr ∧ m3.wm.num ≤ p₀.num := fun p b h hm => (he.new p b h (hcn p hm)).2
  have hmix0 : ∀ p b p' b', ρ1 p = some b → Made R x p → ρ p' = some b' → b.r = b'.r → V' p ≠ .dead → V' p' ≠ .dead → p'.num < (R x).m.nx.num ∧ V' p' = m3.at p' ∧ ρ1 p' = some b' := by
    intro p b p' b' h1 hm h2 hr hd hd'
    rcases hfresh p b h1 hm with h | ⟨p₀, b₀, h3, h4, h5, h6⟩
    · have := I.rlt p' b' h2 (hlive p' b' h2 hd'); omega
    · obtain ⟨k1, k2, k3, k4, k5, k6⟩ := hwr p₀ b₀ h3 h5 h6
      have e : p₀ = p' := I.inj p₀ b₀ p' b' k2 h2 (h4.trans hr) k3 (hlive p' b' h2 hd')
      subst e
      exact ⟨k1, hwr' p₀ b₀ h3 h5 h6 p₀ b' h2 k1, hcut1 _ _ h2 k1⟩
  refine ⟨ρ', V', v', w', hstep, ?_⟩
  constructor
  case closed =>
    intro j hj hS i hi
    rcases hS with hS | rfl
    · exact .inl (I.closed j hj hS i hi)
    · exact .inl (hp i hi)
  case sub => exact I.sub.trans hsub
  case dom =>
    intro p b h
    by_cases hm : Made R x p
    · refine .inr ⟨?_, x, hxlt, .inr rfl, hm⟩
      cases hc : (R 0).ρ p with
      | none => rfl
      | some b' =>
        have := h0lt p b' hc
        have := hm.1
        omega
    · rw [hρ'n p hm] at h
      rcases I.dom p b h with h | ⟨h, j, h1, h2, h3⟩
      · exact .inl h
      · exact .inr ⟨h, j, h1, .inl h2, h3⟩
  case has =>
    intro p j hj hS hm
    by_cases hmx : Made R x p
    · obtain ⟨b, hb⟩ := he.all p (by rw [hnx]; exact hmx.1) (by rw [hnx3]; exact hmx.2)
      exact ⟨b, hsub1 _ _ hb⟩
    · rcases hS with hS | rfl
      · obtain ⟨b, hb⟩ := I.has p j hj hS hm
        exact ⟨b, hsub _ _ hb⟩
      · exact absurd hm hmx
  case rlt =>
    intro p b h hd
    by_cases hm : Made R x p
    · rw [hρ'm p hm] at h
      refine hs1.rlt p b h ?_
      rw [hmade p hm, ← hV'm p (.inl hm)]; exact hd
    · rw [hρ'n p hm] at h; exact Nat.lt_of_lt_of_le (I.rlt p b h (hlive p b h hd)) he.size
  case obj =>
    intro p b h
    by_cases hm : Made R x p
    · rw [hρ'm p hm] at h
      rw [hV'm p (.inl hm), ← hmade p hm]
      exact (hs1.obj p b h).mono hsub1 rfl
    · rw [hρ'n p hm] at h
      by_cases hc : (∃ q, Touch R x q) ∧ p.num < (R x).m.nx.num
      · obtain ⟨⟨q, hq⟩, hlt⟩ := hc
        have hv := (hcutV.resolve_left fun h => h q hq) p b h hlt
        rw [hv]
        exact (hs1.obj p b (hcut1 p b h hlt)).mono hsub1 rfl
      · have hnt : ¬ Touch R x p := fun ht => hc ⟨⟨p, ht⟩, htlt p ht⟩
        rw [hV'n p hm hnt]
        by_cases hd : V p = .dead
        · rw [hd]; trivial
        · by_cases hlt : p.num < (R x).m.nx.num
          · rcases hkind with ⟨k0, k1⟩ | ⟨k1, k2, k3, k4⟩
            · refine (I.obj p b h).mono hsub (he.frame _ (I.rlt p b h hd) fun p' b' h1 _ _ => ?_)
              have := (Rho.cut_some h1).1
              omega
            · have hv : V p = m3.at p := by
                rw [k3 p b h hlt, k2]
                exact Classical.byContradiction fun hne => hnt ⟨hlt, fun e => hne e.symm⟩
              rw [hv]
              exact (hs1.obj p b (hcut1 p b h hlt)).mono hsub1 rfl
          · refine (I.obj p b h).mono hsub (he.frame _ (I.rlt p b h hd) fun p' b' h1 h2 h3 => ?_)
            refine Classical.byContradiction fun hge => hlt ?_
            obtain ⟨k1, k2, k3, _⟩ := hwr p' b' h1 h3 (by omega)
            rw [← I.inj p' b' p b k2 h h2 k3 hd]
            exact k1
  case inj =>
    intro p b p' b' h h' hr hd hd'
    by_cases hm : Made R x p <;> by_cases hm' : Made R x p'
    · rw [hρ'm p hm] at h; rw [hρ'm p' hm'] at h'
      refine hs1.inj p b p' b' h h' hr ?_ ?_
      · rw [hmade p hm, ← hV'm p (.inl hm)]; exact hd
      · rw [hmade p' hm', ← hV'm p' (.inl hm')]; exact hd'
    · rw [hρ'm p hm] at h; rw [hρ'n p' hm'] at h'
      obtain ⟨_, k2, k3⟩ := hmix0 p b p' b' h hm h' hr hd.ne hd'
      refine hs1.inj p b p' b' h k3 hr ?_ ?_
      · rw [hmade p hm, ← hV'm p (.inl hm)]; exact hd
      · rw [← k2]; exact hd'
    · rw [hρ'n p hm] at h; rw [hρ'm p' hm'] at h'
      obtain ⟨_, k2, k3⟩ := hmix0 p' b' p b h' hm' h hr.symm hd' hd.ne
      refine hs1.inj p b p' b' k3 h' hr ?_ ?_
      · rw [← k2]; exact hd
      · rw [hmade p' hm', ← hV'm p' (.inl hm')]; exact hd'
    · rw [hρ'n p hm] at h; rw [hρ'n p' hm'] at h'
      exact I.inj p b p' b' h h' hr (hwrb p b h hd) (hlive p' b' h' hd')
  case view =>
    intro p b h i hi hpi hc
    by_cases hm : Made R x p
    · rw [hV'm p (.inl hm)]
      have hxi : x + 1 ≤ i := by
        refine Classical.byContradiction fun hlt => ?_
        have := T.nx_le (i := i) (k := x) (by omega) (by omega)
        have := hm.1
        omega
      refine (T.keep hxi hi hm.2 fun y h1 h2 ht => ?_).symm
      rcases (hc y (by omega) ht).2 h2 with hS | rfl
      · obtain ⟨b', hb'⟩ := I.touch y (by omega) hS p ht
        exact hnm p b' hb' hm
      · omega
    · rw [hρ'n p hm] at h
      by_cases ht : Touch R x p
      · rw [hV'm p (.inr ht)]
        have hxi : x < i := (hc x hxlt ht).1 (.inr rfl)
        refine (T.keep (i := x + 1) hxi hi (Nat.lt_of_lt_of_le (htlt p ht) hKK) fun y h1 h2 hty => ?_).symm
        rcases (hc y (by omega) hty).2 h2 with hS | rfl
        · obtain ⟨oy, hoy⟩ := get_op (ops := ops) (i := y) (by omega)
          obtain ⟨l1, e1⟩ := T.touch ho ht
          obtain ⟨l2, e2⟩ := T.touch hoy hty
          rcases I.order T ho hx hp hoy with h3 | ⟨_, h3⟩
          · have := h3.1 hS; omega
          · have h4 := h3 l1 l2
            rw [clash_wr (e1.imp id fun h => .inr (.inr ⟨p, h⟩)) e2] at h4
            cases h4
        · omega
      · rw [hV'n p hm ht]
        refine I.view p b h i hi hpi fun y hy hty => ?_
        have hne : y ≠ x := fun e => ht (e ▸ hty)
        have := hc y hy hty
        simpa [hne] using this
  case touch =>
    intro y hy hS p ht
    rcases hS with hS | rfl
    · obtain ⟨b, hb⟩ := I.touch y hy hS p ht
      exact ⟨b, hsub _ _ hb⟩
    · rcases hkind with ⟨_, h⟩ | ⟨k1, k2, k3, k4⟩
      · exact absurd ht (h p)
      · cases hc : ρ.cut (R y).m.nx.num p with
        | some b => exact ⟨b, hsub _ _ (Rho.cut_some hc).2⟩
        | none =>
          exfalso
          have := he.rframe p (by rw [hnx]; exact ht.1) (.inl hc)
          rw [k1, k2] at this
          exact ht.2 this
  case size => exact ht1.1
  case tmp =>
    intro d i hi hc
    by_cases hd : o.dst = some d
    · have hxi : x < i := (hc x o ho hd).1 (.inr rfl)
      have hk := T.keepT (d := d) (i := x + 1) hxi hi fun y oy h1 h2 hoy hdy => by
        rcases (hc y oy hoy hdy).2 h2 with hS | rfl
        · rcases I.order T ho hx hp hoy with h3 | ⟨h3, _⟩
          · have := h3.1 hS; omega
          · exact (h3 d hdy).2 hd
        · omega
      have hv := ht1.2 d
      rw [hk, hT]
      rw [hd, setd_same] at hv ⊢
      exact VR.mono hsub1 _ _ hv
    · have hv := I.tmp d i hi fun y oy hy hdy => by
        have hne : y ≠ x := fun e => by subst e; rw [ho] at hy; cases hy; exact hd hdy
        have := hc y oy hy hdy
        simpa [hne] using this
      have hput : (a.put o.dst v').tmps.getD d Go.undef = a.tmps.getD d Go.undef := by
        rw [put_tmps]
        unfold putA
        cases hdst : o.dst with
        | none => rfl
        | some e =>
          have hne : e ≠ d := fun q => hd (by rw [hdst, q])
          simp only [Array.getD_eq_getD_getElem?, Array.getElem?_setIfInBounds_ne hne]
      rw [hput]
      exact VR.mono hsub _ _ hv
  case defers => rw [put_defers]; exact I.defers
  case new =>
    intro p b h h0
    by_cases hm : Made R x p
    · rw [hρ'm p hm] at h
      rcases hfresh p b h hm with h | ⟨p₀, b₀, h3, h4, h5, h6⟩
      · exact .inl (Nat.le_trans I.wsize h)
      · obtain ⟨k1, k2, k3, k4, k5, _⟩ := hwr p₀ b₀ h3 h5 h6
        cases h00 : (R 0).ρ p₀ with
        | some b0' =>
          have := I.sub _ _ h00
          rw [k2] at this; cases this
          exact .inr ⟨p₀, b₀, h00, h4, Classical.byContradiction fun hd => hd (T.dead h00 hd x (by omega) ▸ k4), k5⟩
        | none =>
          rcases I.new p₀ b₀ k2 h00 with h7 | ⟨p₁, b₁, h7, h8, h9, h10⟩
          · exact .inl (by omega)
          · exact .inr ⟨p₁, b₁, h7, h8.trans h4, h9, h10⟩
    · rw [hρ'n p hm] at h
      exact I.new p b h h0
  case wsize => exact Nat.le_trans I.wsize he.size
  case frame =>
    intro r hr hf
    rw [← I.frame r hr hf]
    refine he.frame r (Nat.lt_of_lt_of_le hr I.wsize) fun p b h1 h2 h3 => ?_
    refine Classical.byContradiction fun hge => ?_
    obtain ⟨k1, k2, k3, k4, k5, _⟩ := hwr p b h1 h3 (by omega)
    cases h00 : (R 0).ρ p with
    | some b0' =>
      have := I.sub _ _ h00
      rw [k2] at this; cases this
      have := hf p b h00 h2 (Classical.byContradiction fun hd => hd (T.dead h00 hd x (by omega) ▸ k4))
      omega
    | none =>
      rcases I.new p b k2 h00 with h7 | ⟨p₁, b₁, h7, h8, h9, h10⟩
      · omega
      · have := hf p₁ b₁ h7 (h8.trans h2) h9
        omega
  case os => exact he.os.trans I.os
  case tape => exact he.tape.trans I.tape
  case output => exact he.output.trans I.output
end
end Go.Ref
end
section
namespace Go.Ref
open Go
section
variable {P : Program} {n : Nat} {ops : Array Oper} {call : CallF} {R : Nat → Rec} {E : Nat → Ev}
variable {a₀ : Act} {S : Nat → Prop} {ρ : Rho} {V : Pos → RO} {a : Act} {w : World} {x : Nat} {o : Oper}
theorem Inv.virt (T : Tra P n ops call R E) (I : Inv n ops R a₀ S ρ V a w) (hx : x ≤ ops.size) {p : Pos} {b : Blk} (hb : ρ p = some b) (hlt : p.num < (R x).m.nx.num) : ∃ b₂, (R x).ρ p = some b₂ := by
  rcases I.dom p b hb with h | ⟨_, j, hj, _, hm⟩
  · exact ⟨b, T.sub (Nat.zero_le _) hx _ _ h⟩
  · refine T.made hm ?_ hx
    refine Classical.byContradiction fun hge => ?_
    have := T.nx_le (i := x) (k := j) (by omega) (by omega)
    have := hm.1
    omega
theorem Inv.one (hcall : CallOk P call) (T : Tra P n ops call R E) (I : Inv n ops R a₀ S ρ V a w) (ho : ops[x]? = some o) (hx : ¬ S x) (hp : ∀ i, Ahead ops i x → S i) :
    ∃ ρ' V' v' w', StepOp P ops x a w (a.put o.dst v') w' ∧ Inv n ops R a₀ (fun j => S j ∨ j = x) ρ' V' (a.put o.dst v') w' := by
  have hxlt : x < ops.size := (Array.getElem?_eq_some_iff.1 ho).1
  obtain ⟨t2, ha, ht2⟩ := I.temps T ho hx hp
  obtain ⟨m1, h1, h2, h3, h4, h5, h6, h7⟩ := T.step x o ho
  have hclt : ∀ p b, ρ.cut (R x).m.nx.num p = some b → p.num < (R x).m.nx.num := fun p b h => (Rho.cut_some h).1
  rcases h7 with ⟨hq, he⟩ | ⟨hl, he⟩
  · have hnt : ∀ p, ¬ Touch R x p := fun p ht => by have := (T.touch ho ht).1; rw [hq] at this; cases this
    have hdead : ∀ p, (Hp.mk .e (R x).m.nx (R x).m.nx).at p = .dead := fun p => Tr.get_e p
    have hm2 : Sim (ρ.cut (R x).m.nx.num) ⟨.e, (R x).m.nx, (R x).m.nx⟩ w :=
      ⟨hclt, fun p b _ hd => absurd (hdead p) hd, fun p b _ => by rw [hdead]; trivial, fun p b p' b' _ _ _ hd _ => absurd (hdead p) hd.ne⟩
    obtain ⟨v, hv, hm⟩ := oper_quiet (m := (R x).mm) (m2 := ⟨.e, (R x).m.nx, (R x).m.nx⟩) hq rfl ha h1
    rcases hm with ⟨hm, hr⟩ | ⟨ro, hm, hr⟩
    · have hnx : (R x).m.nx = (R (x + 1)).m.nx := by rw [← h3, hm]; rfl
      refine I.apply hcall T ho hx hp ht2 hm2 rfl hr hv hnx (fun p hmd => ?_) (.inl ⟨Nat.le_refl _, hnt⟩)
      have := hmd.1; have := hmd.2; rw [← hnx] at this; omega
    · have hnx : (R x).m.nx.succ = (R (x + 1)).m.nx := by rw [← h3, hm]; rfl
      refine I.apply hcall T ho hx hp ht2 hm2 rfl hr hv hnx (fun p hmd => ?_) (.inl ⟨Nat.le_refl _, hnt⟩)
      have e1 := hmd.1; have e2 := hmd.2
      rw [← hnx, Pos.num_succ] at e2
      have e : p = (R x).m.nx := Pos.num_inj (by omega)
      rw [← at_h h2, hm, e]
      unfold Hp.at
      show Tr.get .dead (R x).m.nx (Tr.set .dead (R x).m.nx ro .e) = Tr.get .dead (R x).m.nx (Tr.set .dead (R x).m.nx ro _)
      rw [Tr.get_set, Tr.get_set]
  · have rest : (E x = .all ∨ E x = .other ∨ ∃ q, E x = .wr q) → ∃ ρ' V' v' w', StepOp P ops x a w (a.put o.dst v') w' ∧ Inv n ops R a₀ (fun j => S j ∨ j = x) ρ' V' (a.put o.dst v') w' := by
      intro hE
      have hsee : ∀ p b, ρ p = some b → p.num < (R x).m.nx.num → V p = (R x).m.at p := fun p b hb hlt => I.see T ho hx hp hl hb hlt (hE.imp id fun h => h.imp id fun h => .inr h)
      obtain ⟨v, hv, hr⟩ := oper_two ha h1
      have hm2 : Sim (ρ.cut (R x).m.nx.num) (R x).mm w := by
        refine ⟨hclt, fun p b h hd => I.rlt p b (Rho.cut_some h).2 (by rw [hsee p b (Rho.cut_some h).2 (Rho.cut_some h).1]; exact hd), fun p b h => ?_, fun p b p' b' h h' hr hd hd' => ?_⟩
        · obtain ⟨hlt, hb⟩ := Rho.cut_some h
          rw [Rec.mm_at]
          obtain ⟨b₂, hb₂⟩ := I.virt T (by omega) hb hlt
          obtain ⟨hsim, _⟩ := T.good x (by omega)
          have := I.obj p b hb
          rw [hsee p b hb hlt] at this
          exact this.cut hsim.lt (hsim.obj p b₂ hb₂)
        · obtain ⟨hlt, hb⟩ := Rho.cut_some h
          obtain ⟨hlt', hb'⟩ := Rho.cut_some h'
          rw [Rec.mm_at] at hd hd'
          rw [← hsee p b hb hlt] at hd
          rw [← hsee p' b' hb' hlt'] at hd'
          exact I.inj p b p' b' hb hb' hr hd hd'
      exact I.apply hcall T ho hx hp ht2 hm2 rfl hr hv h3 (fun p _ => at_h h2 p) (.inr ⟨fun p => rfl, at_h h2, hsee, h5⟩)
    rcases evOf_cases o.op (R x).t (R x).mm m1 with ⟨ty, y, q, off, ho', hy, hev⟩ | hev | hev | ⟨hev, _⟩
    · have hE : E x = .load q := he.trans hev
      have hnt : ∀ p, ¬ Touch R x p := fun p ht => by
        have := (T.touch ho ht).2
        rw [hE] at this
        rcases this with h | h <;> cases h
      have hat : ∀ p, (Hp.mk (Tr.set .dead q ((R x).m.at q) .e) (R x).m.nx (R x).m.nx).at p = (open Classical in if p = q then (R x).m.at q else .dead) := by
        intro p
        unfold Hp.at
        by_cases h : p = q
        · subst h; rw [if_pos rfl, Tr.get_set]
        · rw [if_neg h, Tr.get_set_ne h, Tr.get_e]
      have hm2 : Sim (ρ.cut (R x).m.nx.num) ⟨Tr.set .dead q ((R x).m.at q) .e, (R x).m.nx, (R x).m.nx⟩ w := by
        refine ⟨hclt, fun p b h hd => ?_, fun p b h => ?_, fun p b p' b' h h' hr hd hd' => ?_⟩
        · obtain ⟨hlt, hb⟩ := Rho.cut_some h
          rw [hat] at hd
          by_cases hpq : p = q
          · subst hpq
            rw [if_pos rfl] at hd
            exact I.rlt p b hb (by rw [I.see T ho hx hp hl hb hlt (.inr (.inr (.inl hE)))]; exact hd)
          · rw [if_neg hpq] at hd; exact absurd rfl hd
        · obtain ⟨hlt, hb⟩ := Rho.cut_some h
          rw [hat]
          by_cases hpq : p = q
          · subst hpq
            rw [if_pos rfl]
            obtain ⟨b₂, hb₂⟩ := I.virt T (by omega) hb hlt
            obtain ⟨hsim, _⟩ := T.good x (by omega)
            have := I.obj p b hb
            rw [I.see T ho hx hp hl hb hlt (.inr (.inr (.inl hE)))] at this
            exact this.cut hsim.lt (hsim.obj p b₂ hb₂)
          · rw [if_neg hpq]; trivial
        · rw [hat] at hd hd'
          by_cases h1 : p = q
          · by_cases h2 : p' = q
            · rw [h1, h2]
            · rw [if_neg h2] at hd'; exact absurd rfl hd'
          · rw [if_neg h1] at hd; exact absurd rfl hd.ne
      obtain ⟨hm, v, hv, hr⟩ := oper_load (m := (R x).mm) (m2 := ⟨Tr.set .dead q ((R x).m.at q) .e, (R x).m.nx, (R x).m.nx⟩) ho' hy ha h1 (by rw [hat, if_pos rfl]; rfl)
      have hnx : (R x).m.nx = (R (x + 1)).m.nx := by rw [← h3, hm]; rfl
      refine I.apply hcall T ho hx hp ht2 hm2 rfl hr hv hnx (fun p hmd => ?_) (.inl ⟨Nat.le_refl _, hnt⟩)
      have := hmd.1; have := hmd.2; rw [← hnx] at this; omega
    · exact rest (.inl (he.trans hev))
    · obtain ⟨q, hev⟩ := hev
      exact rest (.inr (.inr ⟨q, he.trans hev⟩))
    · exact rest (.inr (.inl (he.trans hev)))
def Listed (l : Array Bool) (j : Nat) : Prop := l.getD j false = true
def unlisted (N : Nat) (l : Array Bool) : Nat := ((List.range N).filter fun j => !l.getD j false).length
theorem listed_set {l : Array Bool} {x : Nat} (hx : x < l.size) : Listed (l.setIfInBounds x true) = fun j => Listed l j ∨ j = x := by
  funext j
  unfold Listed
  apply propext
  by_cases h : j = x
  · subst h
    simp [Array.getD_eq_getD_getElem?, hx]
  · simp only [Array.getD_eq_getD_getElem?, Array.getElem?_setIfInBounds_ne (Ne.symm h), h, or_false]
theorem unlisted_set {N : Nat} {l : Array Bool} {x : Nat} (hx : x < l.size) (hxN : x < N) (hn : ¬ Listed l x) : unlisted N (l.setIfInBounds x true) < unlisted N l := by
  unfold unlisted
  have hset := listed_set hx
  have e : (List.range N).filter (fun j => !(l.setIfInBounds x true).getD j false) = ((List.range N).filter fun j => !l.getD j false).filter fun j => decide (j ≠ x) := by
    rw [List.filter_filter]
    apply List.filter_congr
    intro j _
    have := congrFun hset j
    unfold Listed at this
    by_cases h : j = x
    · subst h
      have h2 : (l.setIfInBounds j true).getD j false = true := this.mpr (.inr rfl)
      rw [h2]; simp
    · have h2 : ((l.setIfInBounds x true).getD j false = true) = (l.getD j false = true) := by rw [this]; simp [h]
      have h3 : (l.setIfInBounds x true).getD j false = l.getD j false := Bool.eq_iff_iff.2 (iff_of_eq h2)
      rw [h3]; simp [h]
  rw [e]
  refine List.length_filter_lt_length_iff_exists.2 ⟨x, List.mem_filter.2 ⟨List.mem_range.2 hxN, ?_⟩, by simp⟩
  unfold Listed at hn
  simpa using hn
theorem all_listed (T : Tra P n ops call R E) {l : Array Bool} (hl : l.size = ops.size) (hr : Region.ready .any ops l = []) : ∀ j, j < ops.size → Listed l j := by
  intro j
  induction j using Nat.strongRecOn with
  | _ j ih =>
    intro hj
    refine Classical.byContradiction fun hn => ?_
    obtain ⟨o, ho⟩ := get_op hj
    have : j ∈ Region.ready .any ops l := by
      refine mem_ready.2 ⟨?_, o, ho, fun e he hb => ?_⟩
      · unfold Listed at hn
        rw [Array.getD_eq_getD_getElem?, Array.getElem?_eq_getElem (by omega)] at hn ⊢
        simpa using hn
      · have h := T.edges j o ho e he hb
        exact ih e.on h (by omega)
    rw [hr] at this
    simp at this
theorem draw_go (hcall : CallOk P call) (T : Tra P n ops call R E) : ∀ (fuel tp : Nat) (l : Array Bool) (ρ : Rho) (V : Pos → RO) (a : Act) (w : World), l.size = ops.size → unlisted ops.size l ≤ fuel → Inv n ops R a₀ (Listed l) ρ V a w →
    ∃ l' ρ' V' a' w', (∀ (b : Frame) (k : List Item) (cs : List Frame), Steps P (lone (b.at a (.inRegion ops (Region.linearise.go .any ops fuel tp l []) :: k)) cs w) (lone (b.at a' k) cs w')) ∧ Inv n ops R a₀ (Listed l') ρ' V' a' w' ∧ ∀ j, j < ops.size → Listed l' j
  | 0, tp, l, ρ, V, a, w, hl, hu, I => by
    refine ⟨l, ρ, V, a, w, fun b k cs => .one step_region_end, I, fun j hj => ?_⟩
    refine Classical.byContradiction fun hn => ?_
    have h0 : unlisted ops.size l = 0 := by omega
    unfold unlisted at h0
    have := List.length_eq_zero_iff.1 h0
    have hm : j ∈ (List.range ops.size).filter fun j => !l.getD j false := List.mem_filter.2 ⟨List.mem_range.2 hj, by unfold Listed at hn; simpa using hn⟩
    rw [this] at hm
    simp at hm
  | fuel + 1, tp, l, ρ, V, a, w, hl, hu, I => by
    have hgo : Region.linearise.go .any ops (fuel + 1) tp l [] = match (Region.ready .any ops l)[tp % (Region.ready .any ops l).length]? with
      | some i => Region.linearise.go .any ops fuel (tp / (Region.ready .any ops l).length) (l.setIfInBounds i true) [i]
      | Option.none => [].reverse := rfl
    rw [hgo]
    cases hi : (Region.ready .any ops l)[tp % (Region.ready .any ops l).length]? with
    | none =>
      have hnil : Region.ready .any ops l = [] := by
        cases hr : Region.ready .any ops l with
        | nil => rfl
        | cons x xs =>
          rw [hr] at hi
          have hlt : tp % (x :: xs).length < (x :: xs).length := Nat.mod_lt _ (by simp)
          rw [List.getElem?_eq_none_iff] at hi
          omega
      exact ⟨l, ρ, V, a, w, fun b k cs => .one step_region_end, I, all_listed T hl hnil⟩
    | some x =>
      simp only []
      rw [linearise_go_acc, List.reverse_singleton, List.singleton_append]
      obtain ⟨hn, o, ho, he⟩ := mem_ready.1 (List.mem_of_getElem? hi)
      have hxlt : x < ops.size := (Array.getElem?_eq_some_iff.1 ho).1
      have hx : ¬ Listed l x := by
        unfold Listed
        rw [Array.getD_eq_getD_getElem?, Array.getElem?_eq_getElem (by omega)] at hn ⊢
        simpa using hn
      have hp : ∀ i, Ahead ops i x → Listed l i := by
        intro i hi
        obtain ⟨e, he1, he2, he3⟩ := ahead_edge ho hi
        have hle : Listed l e.on := he e he1 he2
        rcases he3 with rfl | he3
        · exact hle
        · have := T.edges x o ho e he1 he2
          exact I.closed e.on (by omega) hle i he3
      obtain ⟨ρ1, V1, v1, w1, hstep, I1⟩ := I.one hcall T ho hx hp
      rw [← listed_set (l := l) (by omega)] at I1
      have hlt := unlisted_set (N := ops.size) (l := l) (x := x) (by omega) hxlt hx
      obtain ⟨l', ρ', V', a', w', h1, h2, h3⟩ := draw_go hcall T fuel (tp / (Region.ready .any ops l).length) _ ρ1 V1 _ w1 (by simpa using hl) (by omega) I1
      exact ⟨l', ρ', V', a', w', fun b k cs => (hstep b k cs _).trans (h1 b k cs), h2, h3⟩
theorem Tra.rdom (T : Tra P n ops call R E) {p : Pos} : ∀ k, k ≤ ops.size → ∀ b, (R k).ρ p = some b → (R 0).ρ p = some b ∨ (R 0).m.nx.num ≤ p.num
  | 0, _, b, h => .inl h
  | k + 1, hk, b, h => by
    obtain ⟨o, ho⟩ := get_op (ops := ops) (i := k) hk
    obtain ⟨m1, h1, h2, h3, h4, h5, h6, h7⟩ := T.step k o ho
    cases hc : (R k).ρ p with
    | some b' =>
      have := h6.sub _ _ hc
      rw [h] at this; cases this
      exact T.rdom k (by omega) b hc
    | none =>
      right
      have e1 : (R k).m.nx.num ≤ p.num := (h6.new p b h hc).1
      have e2 := T.nx_le (i := 0) (k := k) (Nat.zero_le _) (by omega)
      omega
theorem Tra.made_of (T : Tra P n ops call R E) {p : Pos} (h0 : (R 0).m.nx.num ≤ p.num) : ∀ k, k ≤ ops.size → p.num < (R k).m.nx.num → ∃ j, j < ops.size ∧ Made R j p
  | 0, _, h => by omega
  | k + 1, hk, h => by
    by_cases hlt : p.num < (R k).m.nx.num
    · exact T.made_of h0 k (by omega) hlt
    · exact ⟨k, hk, by omega, h⟩
theorem Inv.done (T : Tra P n ops call R E) (I : Inv n ops R a₀ S ρ V a w) (hS : ∀ j, j < ops.size → S j) {y : Aux} (hd : DsR (R 0).ρ y.ds a₀.defers) :
    Ext (R 0).ρ (R 0).m (R 0).w ρ (R ops.size).m w ∧ St ρ (R ops.size).m w y n (R ops.size).t a := by
  have hN := Nat.le_refl ops.size
  have hlt : ∀ p b, ρ p = some b → p.num < (R ops.size).m.nx.num := by
    intro p b hb
    rcases I.dom p b hb with h | ⟨_, j, hj, _, hm⟩
    · have e1 := (T.good 0 (Nat.zero_le _)).1.lt p b h
      have e2 := T.nx_le (i := 0) (k := ops.size) (Nat.zero_le _) hN
      omega
    · have e1 := T.nx_le (i := j + 1) (k := ops.size) hj hN
      have := hm.2
      omega
  have hview : ∀ p b, ρ p = some b → V p = (R ops.size).m.at p := fun p b hb => I.view p b hb ops.size hN (hlt p b hb) fun y hy _ => ⟨fun _ => hy, fun _ => hS y hy⟩
  refine ⟨⟨I.sub, ?_, ?_, ?_, ?_, T.nx_le (Nat.zero_le _) hN, T.wm_le (Nat.zero_le _) hN, I.wsize, I.frame, I.os, I.tape, I.output⟩, ⟨⟨I.size, fun d => ?_⟩, ⟨hlt, fun p b hb hd => I.rlt p b hb (by rw [hview p b hb]; exact hd), ?_, ?_⟩, ?_⟩⟩
  · intro p b h h0
    refine ⟨?_, I.new p b h h0⟩
    rcases I.dom p b h with h | ⟨_, j, hj, _, hm⟩
    · rw [h0] at h; cases h
    · have e1 := T.nx_le (i := 0) (k := j) (Nat.zero_le _) (by omega)
      have := hm.1
      omega
  · intro p h1 h2
    obtain ⟨j, hj, hm⟩ := T.made_of h1 ops.size hN h2
    exact I.has p j hj (hS j hj) hm
  · intro p b hb hd
    exact T.dead hb hd ops.size hN
  · intro p hp hq
    refine T.keep (Nat.zero_le _) hN hp fun y _ hy ht => ?_
    obtain ⟨o, ho⟩ := get_op (ops := ops) (i := y) hy
    obtain ⟨m1, h1, h2, h3, h4, h5, h6, h7⟩ := T.step y o ho
    refine ht.2 ?_
    rw [← at_h h2]
    refine h6.rframe p ht.1 ?_
    rcases hq with hq | hq
    · left
      cases hc : (R y).ρ p with
      | none => rfl
      | some b =>
        rcases T.rdom y (by omega) b hc with h | h
        · rw [hq] at h; cases h
        · omega
    · right
      refine Classical.byContradiction fun hge => ?_
      have e1 := h5 p ht.1 (by omega)
      have e2 := T.wm_le (i := y + 1) (k := ops.size) hy hN
      omega
  · refine I.tmp d ops.size hN fun y oy hy _ => ?_
    have hylt := (Array.getElem?_eq_some_iff.1 hy).1
    exact ⟨fun _ => hylt, fun _ => hS y hylt⟩
  · intro p b hb
    rw [← hview p b hb]; exact I.obj p b hb
  · intro p b p' b' hb hb' hr hd hd'
    rw [← hview p b hb] at hd
    rw [← hview p' b' hb'] at hd'
    exact I.inj p b p' b' hb hb' hr hd hd'
  · rw [I.defers]; exact hd.mono I.sub
end
theorem Sim.world {ρ : Rho} {m : Hp} {w w' : World} (h : Sim ρ m w) (hw : w'.heap = w.heap) : Sim ρ m w' :=
  ⟨h.lt, fun a b hb => by rw [hw]; exact h.rlt a b hb, fun a b hb => (h.obj a b hb).mono (.refl ρ) (by rw [hw]), h.inj⟩
theorem Ext.world {ρ ρ' : Rho} {m m' : Hp} {w w0 w' : World} (h : Ext ρ m w0 ρ' m' w') (h1 : w0.heap = w.heap) (h2 : w0.os = w.os) (h3 : w0.tape = w.tape) (h4 : w0.output = w.output) : Ext ρ m w ρ' m' w' :=
  ⟨h.sub, by rw [← h1]; exact h.new, h.all, h.dead, h.rframe, h.nx, h.wm, by rw [← h1]; exact h.size, by rw [← h1]; exact h.frame, h.os.trans h2, h.tape.trans h3, h.output.trans h4⟩
theorem codeOk_draw {P : Program} {f : FuncId} {n : Nat} {call : CallF} {id : Nat} {ops : Array Oper} (hcall : CallOk P call) (hm : P.follows .mixedOrders = true) : CodeOk P f n (.region id ops true) (cCode P n (.region id ops true) call) := by
  intro x t m ρ w a hs
  have hF : cCode P n (.region id ops true) call x t m = (match pairsOf ops with
      | some ps => (fun call x t m => cDraw P n ops ps ops.toList call x [] t m)
      | Option.none => fun _ _ _ _ => .bad) call x t m := rfl
  rw [hF]
  cases hps : pairsOf ops with
  | none => exact .inl rfl
  | some ps =>
    simp only []
    obtain ⟨hedges, hpairs⟩ := pairsOf_spec hps
    let w0 : World := { w with drawn := w.drawn + 1 }
    have hg : GoodR n ⟨t, m, ρ, w0, a.tmps⟩ := ⟨hs.sim.world rfl, hs.tr⟩
    rcases cDraw_trace hcall ops.toList 0 rfl x [] ⟨t, m, ρ, w0, a.tmps⟩ hg with hb | ⟨R, El, r1, r2, r3, r4, r5, r6⟩
    · exact .inl hb
    · rw [Array.length_toList] at r1 r3 r6
      have T : Tra P n ops call R (fun i => El.getD i .all) := by
        refine ⟨r3, fun i o ho => r4 i o (by simpa using ho), fun j o ho => edgesOk_spec hedges ho, fun i j oi oj hij hi hj hna => ?_⟩
        obtain ⟨h1, h2⟩ := hpairs i j oi oj hij hi hj hna
        exact ⟨h1, fun l1 l2 => noClash_spec (by simpa using r5) (i, j) (h2 l1 l2)⟩
      have hR0 : R 0 = ⟨t, m, ρ, w0, a.tmps⟩ := r2
      have hnl : ∀ j, ¬ Listed (Array.replicate ops.size false) j := by
        intro j h
        unfold Listed at h
        rw [Array.getD_eq_getD_getElem?, Array.getElem?_replicate] at h
        split at h <;> simp at h
      have I : Inv n ops R a (Listed (Array.replicate ops.size false)) ρ (fun p => m.at p) a w0 := by
        constructor
        case closed => intro j _ h; exact absurd h (hnl j)
        case sub => rw [hR0]; exact .refl ρ
        case dom => intro p b h; rw [hR0]; exact .inl h
        case has => intro p j _ h; exact absurd h (hnl j)
        case rlt => exact hg.1.rlt
        case obj => exact hg.1.obj
        case inj => exact hg.1.inj
        case view =>
          intro p b hb i hi _ hc
          have := T.keep (p := p) (i := 0) (k := i) (Nat.zero_le _) hi (by rw [hR0]; exact hg.1.lt p b hb) fun y _ hy ht => hnl y ((hc y (by omega) ht).2 hy)
          rw [this, hR0]
        case touch => intro y _ h; exact absurd h (hnl y)
        case size => exact hg.2.1
        case tmp =>
          intro d i hi hc
          have := T.keepT (d := d) (i := 0) (k := i) (Nat.zero_le _) hi fun y o _ hy ho hd => hnl y ((hc y o ho hd).2 hy)
          rw [this, hR0]
          exact hg.2.2 d
        case defers => rfl
        case new => intro p b h h0; rw [hR0] at h0; have h0 : ρ p = Option.none := h0; rw [h] at h0; cases h0
        case wsize => rw [hR0]; exact Nat.le_refl _
        case frame => intro r _ _; rw [hR0]
        case os => rw [hR0]
        case tape => rw [hR0]
        case output => rw [hR0]
      have hu : unlisted ops.size (Array.replicate ops.size false) ≤ ops.size := by
        unfold unlisted
        exact Nat.le_trans (List.length_filter_le _ _) (by simp)
      obtain ⟨l', ρ', V', a', w', h1, h2, h3⟩ := draw_go hcall T ops.size (w.tape w.drawn (.order f id)) _ ρ _ a w0 (by simp) hu I
      obtain ⟨he, hst⟩ := h2.done T h3 (y := x) (by rw [hR0]; exact hs.ds)
      rw [hR0] at he
      refine .inr ⟨.normal, a', w', by rw [r6]; exact ⟨ρ', he.world rfl rfl rfl rfl, hst⟩, fun b k cs hb => ?_⟩
      refine .head step_region_draw ?_
      have := h1 b k cs
      rw [hb]
      simpa only [Region.schedule, hm, Bool.true_or, if_true, Region.linearise] using this
end Go.Ref
end
section
namespace Go.Ref
open Go
def OutT (d : Nat) (t : Tr RV) (out : Out) : Prop :=
  match out with
  | .bad => True
  | .norm _ t' _ => Tr.get undef (path d) t' = Tr.get undef (path d) t
  | .exit _ _ t' _ => Tr.get undef (path d) t' = Tr.get undef (path d) t
  | .ret _ t' _ => Tr.get undef (path d) t' = Tr.get undef (path d) t
theorem OutT.of_eq {d : Nat} {t t1 : Tr RV} {out : Out} (h : OutT d t1 out) (he : Tr.get undef (path d) t1 = Tr.get undef (path d) t) : OutT d t out := by
  cases out <;> first | trivial | exact h.trans he
section
variable {P : Program} {n : Nat} {call : CallF} {d : Nat}
theorem oper_keeps {ops : Array Oper} {o : Oper} {t t' : Tr RV} {m m' : Hp} (hd : o.dst ≠ some d) (h : cOper P n ops o call t m = .ok t' m') : Tr.get undef (path d) t' = Tr.get undef (path d) t := by
  obtain ⟨v, hv, _⟩ := oper_two (t2 := t) (fun _ _ => rfl) h
  rw [hv, setd_get hd]
theorem cOper_dfr {ops : Array Oper} {o : Oper} {t : Tr RV} {m : Hp} {q : DF} {t' : Tr RV} {m' : Hp} : cOper P n ops o call t m ≠ .dfr q t' m' := by
  have hp : ∀ v m1, (∀ q t' m', putd n o.dst v t m1 ≠ .dfr q t' m') := by
    intro v m1 q t' m' h
    unfold putd at h
    cases hdst : o.dst with
    | none => rw [hdst] at h; cases h
    | some e =>
      rw [hdst] at h
      cases hb : Nat.blt e n <;> simp only [hb] at h <;> cases h
  exact cOper_rel (t2 := t) (m2 := m) (A := fun r _ => ∀ q t' m', r ≠ .dfr q t' m') (fun _ _ _ h => by cases h) (hp _ _) (cOp_rel (A := fun r _ => ∀ q t' m', r ≠ .dfr q t' m') (fun _ _ _ h => by cases h) hp fun _ _ => rfl) (fun _ _ => rfl) q t' m'
theorem seq_keeps {ops : Array Oper} : ∀ (os : List Oper), (∀ o ∈ os, o.dst ≠ some d) → ∀ x t m, OutT d t (cSeq P n ops os call x t m)
  | [], _, _, _, _ => rfl
  | o :: os, h, x, t, m => by
    show OutT d t ((cOper P n ops o call t m).go x (cSeq P n ops os call))
    cases hr : cOper P n ops o call t m with
    | bad => trivial
    | dfr => exact absurd hr cOper_dfr
    | ok t' m' => exact (seq_keeps os (fun o ho => h o (by simp [ho])) x t' m').of_eq (oper_keeps (h o (by simp)) hr)
theorem draw_keeps {ops : Array Oper} {ps : List (Nat × Nat)} : ∀ (os : List Oper), (∀ o ∈ os, o.dst ≠ some d) → ∀ x es t m, OutT d t (cDraw P n ops ps os call x es t m)
  | [], _, x, es, t, m => by
    show OutT d t (match noClash ps es.reverse with | true => .norm x t m | false => .bad)
    cases noClash ps es.reverse
    · trivial
    · rfl
  | o :: os, h, x, es, t, m => by
    have ih := draw_keeps (ops := ops) (ps := ps) os fun o ho => h o (by simp [ho])
    unfold cDraw
    simp only []
    cases loud o.op with
    | false =>
      simp only []
      cases hr : cOper P n ops o call t m with
      | bad => trivial
      | dfr => trivial
      | ok t' m' => exact (ih x _ t' m').of_eq (oper_keeps (h o (by simp)) hr)
    | true =>
      obtain ⟨hh, nx, wm⟩ := m
      simp only []
      cases hr : cOper P n ops o call t ⟨hh, nx, nx⟩ with
      | bad => trivial
      | dfr => trivial
      | ok t' m' => exact (ih x _ t' _).of_eq (oper_keeps (h o (by simp)) hr)
theorem loop_keeps {F : Aux → Tr RV → Hp → Out} (hF : ∀ x t m, OutT d t (F x t m)) : ∀ (fuel : Nat) x t m, OutT d t ((Nat.rec (motive := fun _ => Aux → Tr RV → Hp → Out) (fun _ _ _ => .bad)
      (fun _ ih x t m => Out.rec (motive := fun _ => Out) .bad ih (fun id x t m => .exit id x t m) (fun x t m => .ret x t m) (F x t m)) fuel) x t m)
  | 0, _, _, _ => trivial
  | fuel + 1, x, t, m => by
    have h := hF x t m
    simp only []
    cases hr : F x t m with
    | bad => trivial
    | norm x1 t1 m1 => rw [hr] at h; exact (loop_keeps hF fuel x1 t1 m1).of_eq h
    | exit i x1 t1 m1 => rw [hr] at h; exact h
    | ret x1 t1 m1 => rw [hr] at h; exact h
theorem cLoop_keeps {F : CodeF} (hF : ∀ x t m, OutT d t (F call x t m)) (x : Aux) (t : Tr RV) (m : Hp) : OutT d t (cLoop F call x t m) := by
  unfold cLoop
  exact loop_keeps hF 1000000 x t m
theorem wipe_keeps {l : List Nat} (h : d ∉ l) (t : Tr RV) : Tr.get undef (path d) (wipe (l.map path) t) = Tr.get undef (path d) t := by
  induction l generalizing t with
  | nil => rfl
  | cons e l ih =>
    show Tr.get undef (path d) (wipe (l.map path) (Tr.set undef (path e) .none t)) = _
    rw [ih (fun h' => h (by simp [h'])), Tr.get_set_ne (fun q => h (by rw [path_inj q]; simp))]
theorem wipe_none {l : List Nat} (h : d ∈ l) (t : Tr RV) : Tr.get undef (path d) (wipe (l.map path) t) = .none := by
  induction l generalizing t with
  | nil => simp at h
  | cons e l ih =>
    show Tr.get undef (path d) (wipe (l.map path) (Tr.set undef (path e) .none t)) = _
    by_cases h' : d ∈ l
    · exact ih h' _
    · rw [wipe_keeps h']
      rcases List.mem_cons.1 h with rfl | h
      · exact Tr.get_set _ _ _
      · exact absurd h h'
theorem left_spec {ρ : Rho} {seen : List Nat} {since : Nat} : ∀ (es : List ME) (es' : List MapEntry) (c : List ME → Out), MRs ρ es es' →
    left seen since es c = .bad ∨ ∃ l, left seen since es c = c l ∧ LeftR ρ l es' seen ∧ ∀ x ∈ es', x.born < since
  | [], es', c, h => by
    simp only [MRs] at h; subst h
    exact .inr ⟨[], rfl, rfl, by simp⟩
  | e :: es, es', c, h => by
    obtain ⟨e', l', rfl, ⟨h1, h2, h3⟩, h4⟩ := h
    unfold left
    cases hlt : Nat.blt e.born since with
    | false => exact .inl rfl
    | true =>
      have hlt' : e'.born < since := by rw [← h3]; simpa [Nat.blt_eq] using hlt
      have hall : (∀ x ∈ l', x.born < since) → ∀ x ∈ e' :: l', x.born < since := by
        intro hall x hx
        rcases List.mem_cons.1 hx with rfl | hx
        · exact hlt'
        · exact hall x hx
      simp only []
      rw [inL_eq]
      cases hin : seen.contains e.born with
      | true =>
        rcases left_spec es l' c h4 with h | ⟨l, h, hl, ha⟩
        · exact .inl h
        · refine .inr ⟨l, h, ?_, hall ha⟩
          unfold LeftR
          rw [List.filter_cons]
          rw [h3] at hin
          simp only [hin]
          exact hl
      | false =>
        rcases left_spec es l' (fun l => c (e :: l)) h4 with h | ⟨l, h, hl, ha⟩
        · exact .inl h
        · refine .inr ⟨e :: l, h, ?_, hall ha⟩
          unfold LeftR
          rw [List.filter_cons]
          rw [h3] at hin
          simp only [hin]
          exact ⟨_, _, rfl, ⟨h1, h2, h3⟩, hl⟩
theorem left_out {seen : List Nat} {since : Nat} {t : Tr RV} : ∀ (es : List ME) (c : List ME → Out), (∀ l, OutT d t (c l)) → OutT d t (left seen since es c)
  | [], c, h => h []
  | e :: es, c, h => by
    unfold left
    cases Nat.blt e.born since with
    | false => trivial
    | true =>
      cases inL e.born seen with
      | true => exact left_out es c h
      | false => exact left_out es (fun l => c (e :: l)) fun l => h _
theorem rounds_spec {body : CodeF} {p0 p1 : Pos} {x : Aux} {b a : Pos} {clock : Nat} {h : Tr RO} {nx : Pos} {t : Tr RV} {k : Out} : ∀ (l : List ME),
    rounds body p0 p1 call x b a clock h nx t k l = .bad ∨ (rounds body p0 p1 call x b a clock h nx t k l = k ∧ ∀ e ∈ l, ∃ x' t' m', body call ⟨[], x.ro⟩ (Tr.set undef p1 (.bool true) (Tr.set undef p0 (.tuple [.bool true, e.key, e.val]) t)) ⟨Tr.set .dead b (.mapAt a e.born clock) h, nx, nx⟩ = .norm x' t' m' ∧ x'.ds = [] ∧ nx.num ≤ m'.wm.num)
  | [] => .inr ⟨rfl, by simp⟩
  | e :: es => by
    unfold rounds
    cases hr : body call ⟨[], x.ro⟩ (Tr.set undef p1 (.bool true) (Tr.set undef p0 (.tuple [.bool true, e.key, e.val]) t)) ⟨Tr.set .dead b (.mapAt a e.born clock) h, nx, nx⟩ with
    | bad => exact .inl rfl
    | exit => exact .inl rfl
    | ret => exact .inl rfl
    | norm x' t' m' =>
      obtain ⟨ds, ro⟩ := x'
      obtain ⟨h', nx', wm'⟩ := m'
      cases ds with
      | cons => exact .inl rfl
      | nil =>
        simp only []
        rw [Pos.lt_spec]
        by_cases hlt : wm'.num < nx.num
        · left; simp [hlt]
        · simp only [hlt, decide_false]
          rcases rounds_spec es with h1 | ⟨h1, h2⟩
          · exact .inl h1
          · refine .inr ⟨h1, fun e' he' => ?_⟩
            rcases List.mem_cons.1 he' with rfl | he'
            · exact ⟨_, _, _, hr, rfl, by show nx.num ≤ wm'.num; omega⟩
            · exact h2 e' he'
theorem rounds_out {body : CodeF} {p0 p1 : Pos} {x : Aux} {b a : Pos} {clock : Nat} {h : Tr RO} {nx : Pos} {t t0 : Tr RV} {k : Out} (l : List ME) (hk : OutT d t0 k) : OutT d t0 (rounds body p0 p1 call x b a clock h nx t k l) := by
  rcases rounds_spec (body := body) (call := call) (p0 := p0) (p1 := p1) (x := x) (b := b) (a := a) (clock := clock) (h := h) (nx := nx) (t := t) (k := k) l with h1 | ⟨h1, _⟩
  · rw [h1]; trivial
  · rw [h1]; exact hk
theorem mapLoop_keeps {plain body : CodeF} {it : Operand} {d0 d1 id : Nat} {ws : List Nat} (hp : ∀ x t m, OutT d t (plain call x t m)) (hd : d ∉ ws) : ∀ x t m, OutT d t (cMapLoop plain body it d0 d1 id (ws.map path) call x t m) := by
  intro x t m
  unfold cMapLoop
  simp only []
  split
  · split
    · split
      · split
        · refine left_out _ _ fun l => ?_
          split
          · refine rounds_out _ ?_
            exact wipe_keeps hd t
          · exact hp _ _ _
        · trivial
      · trivial
    · exact hp _ _ _
  · exact hp _ _ _
theorem mapLoop_spec {r c rest : Code} {it : Operand} {d0 d1 : Tmp} {id : Nat} {ws : List Nat} (h : mapLoop? (.seq r (.seq c rest)) = some (it, d0, d1, id, ws)) :
    ∃ i idr ty0 pos0 af0 ty1 pos1 af1, r = .region idr #[⟨some d0, .next (.tmp i) false, ty0, pos0, af0, Option.none⟩, ⟨some d1, .extract (.tmp d0) 0, ty1, pos1, af1, Option.none⟩] false ∧ c = .cond (.tmp d1) .skip (.exit id) ∧
      it = .tmp i ∧ d0 ≠ d1 ∧ i ∉ d0 :: d1 :: dsts rest ∧ plainC rest = true ∧ ws = dsts rest := by
  unfold mapLoop? at h
  split at h
  · rename_i idr e0 i0 ty0 pos0 af0 e1 e0' ty1 pos1 af1 e1' id' rest' heq
    simp only [Code.seq.injEq] at heq
    obtain ⟨h1, h2, h3⟩ := heq
    split at h
    · rename_i hc
      cases h
      simp only [Bool.and_eq_true] at hc
      obtain ⟨⟨⟨⟨k1, k2⟩, k3⟩, k4⟩, k5⟩ := hc
      have k1 := Nat.eq_of_beq_eq_true k1
      have k2 := Nat.eq_of_beq_eq_true k2
      have k3 : Nat.beq d0 d1 = false := by simpa using k3
      have k3 := Nat.ne_of_beq_eq_false k3
      subst k1; subst k2; subst h3
      refine ⟨_, _, _, _, _, _, _, _, h1, h2, rfl, k3, ?_, k5, rfl⟩
      simpa using k4
    · cases h
  · cases h
structure KeepsC (P : Program) (n : Nat) (call : CallF) (d : Nat) (c : Code) : Prop where
  go : plainC c = true → d ∉ dsts c → ∀ x t m, OutT d t (cCode P n c call x t m)
theorem keeps_region {id : Nat} {ops : Array Oper} {draw : Bool} : KeepsC P n call d (.region id ops draw) := by
  refine ⟨fun _ hd x t m => ?_⟩
  have hops : ∀ o ∈ ops.toList, o.dst ≠ some d := fun o ho e => hd (List.mem_filterMap.2 ⟨o, ho, e⟩)
  cases draw with
  | false => exact seq_keeps ops.toList hops x t m
  | true =>
    show OutT d t ((match pairsOf ops with
      | some ps => (fun call x t m => cDraw P n ops ps ops.toList call x [] t m)
      | Option.none => fun _ _ _ _ => .bad) call x t m)
    cases pairsOf ops with
    | none => trivial
    | some ps => exact draw_keeps ops.toList hops x [] t m
theorem keeps_seq {a b : Code} (ha : KeepsC P n call d a) (hb : KeepsC P n call d b) : KeepsC P n call d (.seq a b) := by
  refine ⟨fun hp hd x t m => ?_⟩
  simp only [plainC, Bool.and_eq_true] at hp
  simp only [dsts, List.mem_append, not_or] at hd
  have h := ha.go hp.1 hd.1 x t m
  show OutT d t ((cCode P n a call x t m).then (cCode P n b call))
  cases hr : cCode P n a call x t m with
  | bad => trivial
  | norm x1 t1 m1 => rw [hr] at h; exact (hb.go hp.2 hd.2 x1 t1 m1).of_eq h
  | exit => rw [hr] at h; exact h
  | ret => rw [hr] at h; exact h
theorem keeps_cond {c : Operand} {a b : Code} (ha : KeepsC P n call d a) (hb : KeepsC P n call d b) : KeepsC P n call d (.cond c a b) := by
  refine ⟨fun hp hd x t m => ?_⟩
  simp only [plainC, Bool.and_eq_true] at hp
  simp only [dsts, List.mem_append, not_or] at hd
  show OutT d t (match cOpd c t with | .bool v => Bool.rec (motive := fun _ => Out) (cCode P n b call x t m) (cCode P n a call x t m) v | _ => .bad)
  cases cOpd c t <;> try trivial
  rename_i v
  cases v with
  | true => exact ha.go hp.1 hd.1 x t m
  | false => exact hb.go hp.2 hd.2 x t m
theorem keeps_block {id : Nat} {b : Code} (hb : KeepsC P n call d b) : KeepsC P n call d (.block id b) := by
  refine ⟨fun hp hd x t m => ?_⟩
  have h := hb.go hp hd x t m
  show OutT d t (Out.rec (motive := fun _ => Out) .bad (fun x t m => .norm x t m) (fun i x t m => match Nat.beq i id with | true => .norm x t m | false => .exit i x t m) (fun x t m => .ret x t m) (cCode P n b call x t m))
  cases hr : cCode P n b call x t m with
  | bad => trivial
  | norm => rw [hr] at h; exact h
  | exit i x1 t1 m1 => rw [hr] at h; simp only []; cases Nat.beq i id <;> exact h
  | ret => rw [hr] at h; exact h
theorem keeps_loop {b : Code} (hb : KeepsC P n call d b) (hc : cCode P n (.loop b) = cLoop (cCode P n b)) : KeepsC P n call d (.loop b) := by
  refine ⟨fun hp hd x t m => ?_⟩
  rw [hc]
  exact cLoop_keeps (hb.go hp hd) x t m
theorem cCode_loop (r c rest : Code) : cCode P n (.loop (.seq r (.seq c rest))) = (match mapLoop? (.seq r (.seq c rest)) with
      | some (it, d0, d1, id, ws) => (match Nat.blt d0 n && Nat.blt d1 n with
        | true => cMapLoop (cLoop (cCode P n (.seq r (.seq c rest)))) (cCode P n rest) it d0 d1 id ((d0 :: d1 :: ws).map path)
        | false => cLoop (cCode P n (.seq r (.seq c rest))))
      | Option.none => cLoop (cCode P n (.seq r (.seq c rest)))) := rfl
theorem keeps_mapLoop {r c rest : Code} (hb : KeepsC P n call d (.seq r (.seq c rest))) : KeepsC P n call d (.loop (.seq r (.seq c rest))) := by
  refine ⟨fun hp hd x t m => ?_⟩
  have hplain : ∀ x t m, OutT d t (cLoop (cCode P n (.seq r (.seq c rest))) call x t m) := fun x t m => cLoop_keeps (hb.go hp hd) x t m
  rw [cCode_loop]
  cases hl : mapLoop? (.seq r (.seq c rest)) with
  | none => simp only []; exact hplain x t m
  | some p =>
    obtain ⟨it, d0, d1, id, ws⟩ := p
    simp only []
    cases (Nat.blt d0 n && Nat.blt d1 n) with
    | false => exact hplain x t m
    | true =>
      refine mapLoop_keeps hplain ?_ x t m
      obtain ⟨i, idr, ty0, pos0, af0, ty1, pos1, af1, h1, h2, h3, h4, h5, h6, h7⟩ := mapLoop_spec hl
      subst h1; subst h2; subst h7
      simpa [dsts] using hd
theorem cCode_loop_a0 (r : Code)  : cCode P n (.loop (.seq r (.skip))) = cLoop (cCode P n (.seq r (.skip))) := rfl
theorem cCode_loop_b0  : cCode P n (.loop (.skip)) = cLoop (cCode P n (.skip)) := rfl
theorem cCode_loop_a1 (r : Code) (x1 : Nat) : cCode P n (.loop (.seq r (.label x1))) = cLoop (cCode P n (.seq r (.label x1))) := rfl
theorem cCode_loop_b1 (x1 : Nat) : cCode P n (.loop (.label x1)) = cLoop (cCode P n (.label x1)) := rfl
theorem cCode_loop_a2 (r : Code) (x1 : Nat) (x2 : Array Oper) (x3 : Bool) : cCode P n (.loop (.seq r (.region x1 x2 x3))) = cLoop (cCode P n (.seq r (.region x1 x2 x3))) := rfl
theorem cCode_loop_b2 (x1 : Nat) (x2 : Array Oper) (x3 : Bool) : cCode P n (.loop (.region x1 x2 x3)) = cLoop (cCode P n (.region x1 x2 x3)) := rfl
theorem cCode_loop_a3 (r : Code) (x1 : Operand) (x2 : Code) (x3 : Code) : cCode P n (.loop (.seq r (.cond x1 x2 x3))) = cLoop (cCode P n (.seq r (.cond x1 x2 x3))) := rfl
theorem cCode_loop_b3 (x1 : Operand) (x2 : Code) (x3 : Code) : cCode P n (.loop (.cond x1 x2 x3)) = cLoop (cCode P n (.cond x1 x2 x3)) := rfl
theorem cCode_loop_a4 (r : Code) (x1 : Nat) (x2 : Code) : cCode P n (.loop (.seq r (.block x1 x2))) = cLoop (cCode P n (.seq r (.block x1 x2))) := rfl
theorem cCode_loop_b4 (x1 : Nat) (x2 : Code) : cCode P n (.loop (.block x1 x2)) = cLoop (cCode P n (.block x1 x2)) := rfl
theorem cCode_loop_a5 (r : Code) (x1 : Code) : cCode P n (.loop (.seq r (.loop x1))) = cLoop (cCode P n (.seq r (.loop x1))) := rfl
theorem cCode_loop_b5 (x1 : Code) : cCode P n (.loop (.loop x1)) = cLoop (cCode P n (.loop x1)) := rfl
theorem cCode_loop_a6 (r : Code) (x1 : Code) : cCode P n (.loop (.seq r (.scope x1))) = cLoop (cCode P n (.seq r (.scope x1))) := rfl
theorem cCode_loop_b6 (x1 : Code) : cCode P n (.loop (.scope x1)) = cLoop (cCode P n (.scope x1)) := rfl
theorem cCode_loop_a7 (r : Code) (x1 : Nat) : cCode P n (.loop (.seq r (.exit x1))) = cLoop (cCode P n (.seq r (.exit x1))) := rfl
theorem cCode_loop_b7 (x1 : Nat) : cCode P n (.loop (.exit x1)) = cLoop (cCode P n (.exit x1)) := rfl
theorem cCode_loop_a8 (r : Code) (x1 : Nat) : cCode P n (.loop (.seq r (.goto x1))) = cLoop (cCode P n (.seq r (.goto x1))) := rfl
theorem cCode_loop_b8 (x1 : Nat) : cCode P n (.loop (.goto x1)) = cLoop (cCode P n (.goto x1)) := rfl
theorem cCode_loop_a9 (r : Code)  : cCode P n (.loop (.seq r (.ret))) = cLoop (cCode P n (.seq r (.ret))) := rfl
theorem cCode_loop_b9  : cCode P n (.loop (.ret)) = cLoop (cCode P n (.ret)) := rfl
theorem cCode_loop_a10 (r : Code) (x1 : Operand) (x2 : Array Tmp) (x3 : Code) (x4 : Code) : cCode P n (.loop (.seq r (.rangeFunc x1 x2 x3 x4))) = cLoop (cCode P n (.seq r (.rangeFunc x1 x2 x3 x4))) := rfl
theorem cCode_loop_b10 (x1 : Operand) (x2 : Array Tmp) (x3 : Code) (x4 : Code) : cCode P n (.loop (.rangeFunc x1 x2 x3 x4)) = cLoop (cCode P n (.rangeFunc x1 x2 x3 x4)) := rfl
theorem cCode_loop_a11 (r : Code) (x1 : String) : cCode P n (.loop (.seq r (.refuse x1))) = cLoop (cCode P n (.seq r (.refuse x1))) := rfl
theorem cCode_loop_b11 (x1 : String) : cCode P n (.loop (.refuse x1)) = cLoop (cCode P n (.refuse x1)) := rfl
theorem code_keeps : ∀ (c : Code), KeepsC P n call d c
  | .skip => ⟨fun _ _ _ _ _ => rfl⟩
  | .label _ => ⟨fun _ _ _ _ _ => rfl⟩
  | .exit _ => ⟨fun _ _ _ _ _ => rfl⟩
  | .ret => ⟨fun _ _ _ _ _ => rfl⟩
  | .region _ _ _ => keeps_region
  | .seq a b => keeps_seq (code_keeps a) (code_keeps b)
  | .cond _ a b => keeps_cond (code_keeps a) (code_keeps b)
  | .block _ b => keeps_block (code_keeps b)
  | .loop (.seq r (.seq c rest)) => keeps_mapLoop (code_keeps (.seq r (.seq c rest)))
  | .loop (.seq r (.skip)) => keeps_loop (code_keeps (.seq r (.skip))) (cCode_loop_a0 r )
  | .loop (.seq r (.label x1)) => keeps_loop (code_keeps (.seq r (.label x1))) (cCode_loop_a1 r x1)
  | .loop (.seq r (.region x1 x2 x3)) => keeps_loop (code_keeps (.seq r (.region x1 x2 x3))) (cCode_loop_a2 r x1 x2 x3)
  | .loop (.seq r (.cond x1 x2 x3)) => keeps_loop (code_keeps (.seq r (.cond x1 x2 x3))) (cCode_loop_a3 r x1 x2 x3)
  | .loop (.seq r (.block x1 x2)) => keeps_loop (code_keeps (.seq r (.block x1 x2))) (cCode_loop_a4 r x1 x2)
  | .loop (.seq r (.loop x1)) => keeps_loop (code_keeps (.seq r (.loop x1))) (cCode_loop_a5 r x1)
  | .loop (.seq r (.scope x1)) => keeps_loop (code_keeps (.seq r (.scope x1))) (cCode_loop_a6 r x1)
  | .loop (.seq r (.exit x1)) => keeps_loop (code_keeps (.seq r (.exit x1))) (cCode_loop_a7 r x1)
  | .loop (.seq r (.goto x1)) => keeps_loop (code_keeps (.seq r (.goto x1))) (cCode_loop_a8 r x1)
  | .loop (.seq r (.ret)) => keeps_loop (code_keeps (.seq r (.ret))) (cCode_loop_a9 r )
  | .loop (.seq r (.rangeFunc x1 x2 x3 x4)) => keeps_loop (code_keeps (.seq r (.rangeFunc x1 x2 x3 x4))) (cCode_loop_a10 r x1 x2 x3 x4)
  | .loop (.seq r (.refuse x1)) => keeps_loop (code_keeps (.seq r (.refuse x1))) (cCode_loop_a11 r x1)
  | .loop (.skip) => keeps_loop (code_keeps (.skip)) (cCode_loop_b0)
  | .loop (.label x1) => keeps_loop (code_keeps (.label x1)) (cCode_loop_b1 x1)
  | .loop (.region x1 x2 x3) => keeps_loop (code_keeps (.region x1 x2 x3)) (cCode_loop_b2 x1 x2 x3)
  | .loop (.cond x1 x2 x3) => keeps_loop (code_keeps (.cond x1 x2 x3)) (cCode_loop_b3 x1 x2 x3)
  | .loop (.block x1 x2) => keeps_loop (code_keeps (.block x1 x2)) (cCode_loop_b4 x1 x2)
  | .loop (.loop x1) => keeps_loop (code_keeps (.loop x1)) (cCode_loop_b5 x1)
  | .loop (.scope x1) => keeps_loop (code_keeps (.scope x1)) (cCode_loop_b6 x1)
  | .loop (.exit x1) => keeps_loop (code_keeps (.exit x1)) (cCode_loop_b7 x1)
  | .loop (.goto x1) => keeps_loop (code_keeps (.goto x1)) (cCode_loop_b8 x1)
  | .loop (.ret) => keeps_loop (code_keeps (.ret)) (cCode_loop_b9)
  | .loop (.rangeFunc x1 x2 x3 x4) => keeps_loop (code_keeps (.rangeFunc x1 x2 x3 x4)) (cCode_loop_b10 x1 x2 x3 x4)
  | .loop (.refuse x1) => keeps_loop (code_keeps (.refuse x1)) (cCode_loop_b11 x1)
  | .scope _ => ⟨fun hp => Bool.noConfusion (show false = true from hp)⟩
  | .goto _ => ⟨fun hp => Bool.noConfusion (show false = true from hp)⟩
  | .rangeFunc .. => ⟨fun hp => Bool.noConfusion (show false = true from hp)⟩
  | .refuse _ => ⟨fun hp => Bool.noConfusion (show false = true from hp)⟩
end
theorem TR.setNone {ρ : Rho} {n : Nat} {t : Tr RV} {tmps : Array Value} (k : TR ρ n t tmps) {d : Nat} (h : Tr.get undef (path d) t = .none) (v : Value) : TR ρ n t (tmps.setIfInBounds d v) := by
  refine ⟨by simp [k.1], fun i => ?_⟩
  by_cases hi : i = d
  · subst hi; rw [h]; simp only [VR]
  · have : (tmps.setIfInBounds d v).getD i Go.undef = tmps.getD i Go.undef := by
      simp only [Array.getD_eq_getD_getElem?, Array.getElem?_setIfInBounds_ne (Ne.symm hi)]
    rw [this]; exact k.2 i
structure LoopJ (n : Nat) (ρ : Rho) (w : World) (bl bm : Blk) (t0 : Tr RV) (since : Nat) (w' : World) (a' : Act) (seen : Array Nat) (last : Nat) : Prop where
  tr : TR ρ n t0 a'.tmps
  df : a'.defers = []
  size : w.heap.size ≤ w'.heap.size
  keep : ∀ r, r < w.heap.size → r ≠ bl.r → w'.heap[r]? = w.heap[r]?
  iter : w'.heap[bl.r]? = some (.mapIter (some bm.r) since seen last)
  le : since ≤ last
  os : w'.os = w.os
  tape : w'.tape = w.tape
  output : w'.output = w.output
section
variable {P : Program} {f : FuncId} {n : Nat} {call : CallF} {ρ : Rho} {h : Tr RO} {nx wm : Pos} {w w' : World} {b : Pos} {bl bm : Blk} {t0 : Tr RV} {since last : Nat} {seen : Array Nat}
theorem loop_at {o : RO} {wm' : Pos} (p : Pos) : (Hp.mk (Tr.set .dead b o h) nx wm').at p = (open Classical in if p = b then o else (Hp.mk h nx wm).at p) := by
  unfold Hp.at
  by_cases e : p = b
  · subst e; rw [if_pos rfl, Tr.get_set]
  · rw [if_neg e, Tr.get_set_ne e]
theorem loop_sim (hs : Sim ρ ⟨h, nx, wm⟩ w) (hb : ρ b = some bl) (hl : ((Hp.mk h nx wm).at b).wr) (hsz : w.heap.size ≤ w'.heap.size) (hk : ∀ r, r < w.heap.size → r ≠ bl.r → w'.heap[r]? = w.heap[r]?) {o : RO} {wm' : Pos} (ho : ObjR ρ o bl w') :
    Sim ρ ⟨Tr.set .dead b o h, nx, wm'⟩ w' := by
  have live : ∀ x, (open Classical in if x = b then o else (Hp.mk h nx wm).at x) ≠ .dead → (Hp.mk h nx wm).at x ≠ .dead := by
    intro x hx
    by_cases e : x = b
    · rw [e]; exact hl.ne
    · rwa [if_neg e] at hx
  have livew : ∀ x, (open Classical in if x = b then o else (Hp.mk h nx wm).at x).wr → ((Hp.mk h nx wm).at x).wr := by
    intro x hx
    by_cases e : x = b
    · rw [e]; exact hl
    · rwa [if_neg e] at hx
  refine ⟨hs.lt, fun p q hq hd => ?_, fun p q hq => ?_, fun p q p' q' hq hq' hr hd hd' => ?_⟩
  · rw [loop_at (wm := wm)] at hd
    exact Nat.lt_of_lt_of_le (hs.rlt p q hq (live p hd)) hsz
  · rw [loop_at (wm := wm)]
    by_cases e : p = b
    · subst e; rw [hb] at hq; cases hq; rw [if_pos rfl]; exact ho
    · rw [if_neg e]
      by_cases hd : (Hp.mk h nx wm).at p = .dead
      · rw [hd]; trivial
      · exact (hs.obj p q hq).mono (.refl ρ) (hk _ (hs.rlt p q hq hd) fun er => e (hs.inj b bl p q hb hq er.symm hl hd).symm)
  · rw [loop_at (wm := wm)] at hd hd'
    exact hs.inj p q p' q' hq hq' hr (livew p hd) (live p' hd')
theorem loop_head {i d0 d1 idr ty0 ty1 : Nat} {pos0 pos1 : String} {af0 af1 : Array Edge} {c rest : Code} {a1 : Act} {w1 w2 : World} {vs : Array Value} {bb : Bool} (h0 : d0 < n) (hsz : a1.tmps.size = n)
    (hr : (Instr.next (evT a1.tmps (.tmp i)) false ty0).run P w1 = .ok (.tuple vs) w2) (hv : vs[0]? = some (.bool bb)) (b : Frame) (k : List Item) (cs : List Frame) :
    Steps P (lone (b.at a1 (.code (.seq (.region idr #[⟨some d0, .next (.tmp i) false, ty0, pos0, af0, Option.none⟩, ⟨some d1, .extract (.tmp d0) 0, ty1, pos1, af1, Option.none⟩] false) (.seq c rest)) :: k)) cs w1)
      (lone (b.at ((a1.put (some d0) (.tuple vs)).put (some d1) (.bool bb)) (.code c :: .code rest :: k)) cs w2) := by
  have e1 : (execOp (evT a1.tmps) ⟨some d0, .next (.tmp i) false, ty0, pos0, af0, Option.none⟩).run P w1 = .ok (.value (.tuple vs)) w2 := by simp [execOp, hr]
  have g1 := stepOp_gives (P := P) (ops := #[⟨some d0, .next (.tmp i) false, ty0, pos0, af0, Option.none⟩, ⟨some d1, .extract (.tmp d0) 0, ty1, pos1, af1, Option.none⟩]) (i := 0) (a := a1) rfl rfl (gives_value e1)
  have hget : evT (a1.put (some d0) (.tuple vs)).tmps (.tmp d0) = .tuple vs := by
    show (a1.tmps.setIfInBounds d0 (.tuple vs)).getD d0 Go.undef = _
    simp [Array.getD_eq_getD_getElem?, hsz, h0]
  have e2 : (execOp (evT (a1.put (some d0) (.tuple vs)).tmps) ⟨some d1, .extract (.tmp d0) 0, ty1, pos1, af1, Option.none⟩).run P w2 = .ok (.value (.bool bb)) w2 := by
    simp [execOp, hget, Instr.extract, hv]
  have g2 := stepOp_gives (P := P) (ops := #[⟨some d0, .next (.tmp i) false, ty0, pos0, af0, Option.none⟩, ⟨some d1, .extract (.tmp d0) 0, ty1, pos1, af1, Option.none⟩]) (i := 1) (a := a1.put (some d0) (.tuple vs)) rfl rfl (gives_value e2)
  refine .head step_seq (.head step_region ?_)
  exact (g1 b _ cs [1]).trans ((g2 b _ cs []).trans (.head step_region_end (.one step_seq)))
end
theorem codeOk_mapLoop {P : Program} {f : FuncId} {n : Nat} {call : CallF} {r c rest : Code} {it : Operand} {d0 d1 : Tmp} {id : Nat} {ws : List Nat}
    (plain : CodeOk P f n (.loop (.seq r (.seq c rest))) (cLoop (cCode P n (.seq r (.seq c rest))) call)) (hb : CodeOk P f n (.seq r (.seq c rest)) (cCode P n (.seq r (.seq c rest)) call))
    (hr : CodeOk P f n rest (cCode P n rest call)) (hl : mapLoop? (.seq r (.seq c rest)) = some (it, d0, d1, id, ws)) (hlt : (Nat.blt d0 n && Nat.blt d1 n) = true) :
    CodeOk P f n (.loop (.seq r (.seq c rest))) (cMapLoop (cLoop (cCode P n (.seq r (.seq c rest)))) (cCode P n rest) it d0 d1 id ((d0 :: d1 :: ws).map path) call) := by
  obtain ⟨i, idr, ty0, pos0, af0, ty1, pos1, af1, rfl, rfl, rfl, hne, hi, hpl, rfl⟩ := mapLoop_spec hl
  rw [Bool.and_eq_true] at hlt
  have hd0 : d0 < n := by simpa [Nat.blt_eq] using hlt.1
  have hd1 : d1 < n := by simpa [Nat.blt_eq] using hlt.2
  intro x t m ρ w a hs
  have hplain := plain x t m ρ w a hs
  have hit := cOpd_VR hs.tr (.tmp i)
  obtain ⟨h, nx, wm⟩ := m
  unfold cMapLoop
  simp only []
  split
  case h_2 => exact hplain
  rename_i b h' nx' wm' hb0 hm0 hds
  cases hm0
  rw [hb0] at hit
  simp only [VR] at hit
  obtain ⟨bl, hbl, hitv⟩ := hit
  split
  case h_2 => exact hplain
  rename_i ap since seen last hmi
  have hmi' : (Hp.mk h nx wm).at b = .mapIter (some ap) since seen last := hmi
  obtain ⟨m', hiter, hmm, hsh⟩ := hs.sim.iter hbl hmi'
  simp only [] at hmm
  obtain ⟨bm, hbm, rfl⟩ := hmm
  split
  case h_2 => exact .inl rfl
  rename_i es clock hme
  have hme' : (Hp.mk h nx wm).at ap = .map es clock := hme
  obtain ⟨es', hmap, hes⟩ := hs.sim.map hbm hme'
  cases hcl : (Nat.beq clock last && Nat.beq clock since) with
  | false => exact .inl rfl
  | true =>
    rw [Bool.and_eq_true] at hcl
    have hc1 := Nat.eq_of_beq_eq_true hcl.1
    have hc2 := Nat.eq_of_beq_eq_true hcl.2
    subst hc1
    subst hc2
    simp only []
    rcases left_spec es es'.toList _ hes with hb | ⟨l, hlft, hL, hall⟩
    · exact .inl hb
    · rw [hlft]
      split
      case h_2 => exact hplain
      rename_i q1 q2 ql
      generalize hll : q1 :: q2 :: ql = l at hL ⊢
      clear hlft hll
      rcases rounds_spec (call := call) l with hb | ⟨hk, hrounds⟩
      · exact .inl hb
      · rw [hk]
        let t0 := wipe ((d0 :: d1 :: dsts rest).map path) t
        have ht0 : ∀ d, d ∈ d0 :: d1 :: dsts rest → Tr.get undef (path d) t0 = .none := fun d hd => wipe_none hd t
        have ht1 : ∀ d, d ∉ d0 :: d1 :: dsts rest → Tr.get undef (path d) t0 = Tr.get undef (path d) t := fun d hd => wipe_keeps hd t
        have hlive : ((Hp.mk h nx wm).at b).wr := by rw [hmi']; trivial
        have hblt : bl.r < w.heap.size := hs.sim.rlt b bl hbl hlive.ne
        have hbmlt : bm.r < w.heap.size := hs.sim.rlt ap bm hbm (by rw [hme']; simp)
        have hbmne : bm.r ≠ bl.r := by
          intro e
          have := hs.sim.inj ap bm b bl hbm hbl e (by rw [hme']; trivial) hlive.ne
          rw [this, hmi'] at hme'
          cases hme'
        have htr0 : TR ρ n t0 a.tmps := by
          refine ⟨hs.tr.1, fun d => ?_⟩
          by_cases hd : d ∈ d0 :: d1 :: dsts rest
          · rw [ht0 d hd]; simp only [VR]
          · rw [ht1 d hd]; exact hs.tr.2 d
        have hdf : a.defers = [] := by have := hs.ds; rw [hds] at this; exact this
        have key : ∀ (N : Nat) (w1 : World) (a1 : Act) (seen1 : Array Nat) (last1 : Nat), (leftOf es' seen1).size = N → (∀ e, e ∈ (leftOf es' seen1).toList → e ∈ (leftOf es' seen.toArray).toList) →
            LoopJ n ρ w bl bm t0 clock w1 a1 seen1 last1 →
            ∃ a2 w2 seen2 last2, LoopJ n ρ w bl bm t0 clock w2 a2 seen2 last2 ∧ ∀ (q : Frame) (k : List Item) (cs : List Frame), q.fn = f →
              Arrives P (lone (q.at a1 (.code (.seq (.region idr #[⟨some d0, .next (.tmp i) false, ty0, pos0, af0, Option.none⟩, ⟨some d1, .extract (.tmp d0) 0, ty1, pos1, af1, Option.none⟩] false) (.seq (.cond (.tmp d1) .skip (.exit id)) rest)) ::
                .inLoop (.seq (.region idr #[⟨some d0, .next (.tmp i) false, ty0, pos0, af0, Option.none⟩, ⟨some d1, .extract (.tmp d0) 0, ty1, pos1, af1, Option.none⟩] false) (.seq (.cond (.tmp d1) .skip (.exit id)) rest)) :: k)) cs w1) q k cs (.exit id) a2 w2 := by
          intro N
          induction N using Nat.strongRecOn with
          | _ N ih =>
            intro w1 a1 seen1 last1 hN hsubl J
            have hiv : evT a1.tmps (.tmp i) = .pointer (some ⟨bl.r, 0, Option.none⟩) := by
              have := J.tr.2 i
              rw [ht1 i hi] at this
              have hb0' : Tr.get undef (path i) t = .ptr b 0 := hb0
              rw [hb0'] at this
              simp only [VR] at this
              obtain ⟨bl', hbl', he⟩ := this
              rw [hbl] at hbl'; cases hbl'
              rw [hsh] at he
              exact he
            have hm1 : w1.heap[bm.r]? = some (.map es' clock) := by rw [J.keep _ hbmlt hbmne]; exact hmap
            have hrun := run_next_at (P := P) w1 ty0 bl.r bm.r clock last1 seen1 es' clock J.iter hm1 hall J.le
            rcases hrun with ⟨_, hr0⟩ | ⟨e', he', w1', hw1', hr0⟩
            ·
              have hh := fun q k cs => loop_head (P := P) (n := n) (i := i) (d0 := d0) (d1 := d1) (idr := idr) (ty0 := ty0) (ty1 := ty1) (pos0 := pos0) (pos1 := pos1) (af0 := af0) (af1 := af1) (c := .cond (.tmp d1) .skip (.exit id)) (rest := rest) (a1 := a1) (w1 := w1) (w2 := w1) (vs := #[.bool false]) (bb := false) hd0 J.tr.1 (by rw [hiv]; exact hr0) rfl q k cs
              refine ⟨(a1.put (some d0) (.tuple #[.bool false])).put (some d1) (.bool false), w1, seen1, last1, ⟨(J.tr.setNone (ht0 d0 (by simp)) _).setNone (ht0 d1 (by simp)) _, J.df, J.size, J.keep, J.iter, J.le, J.os, J.tape, J.output⟩, fun q k cs hq k' hk' => ?_⟩
              refine (hh q _ cs).trans (.head (step_cond (t := false) ?_) (.one (step_exit ?_)))
              · show (((a1.tmps.setIfInBounds d0 _).setIfInBounds d1 (.bool false)).getD d1 Go.undef) = _
                simp [Array.getD_eq_getD_getElem?, J.tr.1, hd1]
              · simpa [exitTo] using hk'
            ·
              have hww : w1'.heap = w1.heap ∧ w1'.os = w1.os ∧ w1'.tape = w1.tape ∧ w1'.output = w1.output := by rcases hw1' with rfl | rfl <;> exact ⟨rfl, rfl, rfl, rfl⟩
              generalize hw2 : ChangeMaps.setBlock w1' bl.r (.mapIter (some bm.r) clock (seen1.push e'.born) clock) = w2 at hr0
              have hw2s : w2.heap.size = w1.heap.size := by rw [← hw2]; simp [ChangeMaps.setBlock, hww.1]
              have hw2k : ∀ r, r ≠ bl.r → w2.heap[r]? = w1.heap[r]? := fun r hr => by rw [← hw2]; simp [ChangeMaps.setBlock, hww.1, Ne.symm hr]
              have hw2b : w2.heap[bl.r]? = some (.mapIter (some bm.r) clock (seen1.push e'.born) clock) := by
                have : bl.r < w1.heap.size := Nat.lt_of_lt_of_le hblt J.size
                rw [← hw2]; simp [ChangeMaps.setBlock, hww.1, this]
              have hw2o : w2.os = w1.os ∧ w2.tape = w1.tape ∧ w2.output = w1.output := by rw [← hw2]; exact ⟨hww.2.1, hww.2.2.1, hww.2.2.2⟩
              have hmem := hsubl e' he'
              rw [leftOf_list] at hmem
              have hfind : ∀ {l : List ME} {l' : List MapEntry}, MRs ρ l l' → ∀ e' ∈ l', ∃ e ∈ l, MR ρ e e' := by
                intro l
                induction l with
                | nil => intro l' h e' he'; simp only [MRs] at h; subst h; simp at he'
                | cons e l ih =>
                  intro l' h e' he'
                  obtain ⟨e2, l2, rfl, h1, h2⟩ := h
                  rcases List.mem_cons.1 he' with rfl | he'
                  · exact ⟨e, by simp, h1⟩
                  · obtain ⟨e3, h3, h4⟩ := ih h2 e' he'; exact ⟨e3, by simp [h3], h4⟩
              obtain ⟨e, hel, hE⟩ := hfind hL e' hmem
              obtain ⟨x', t', mr, hbody, hxds, hwmr⟩ := hrounds e hel
              have hsim2 : Sim ρ ⟨Tr.set .dead b (.mapAt ap e.born clock) h, nx, nx⟩ w2 := by
                refine loop_sim hs.sim hbl hlive (by rw [hw2s]; exact J.size) (fun r hr hne => by rw [hw2k r hne]; exact J.keep r hr hne) ?_
                exact ⟨bm.r, clock, seen1.push e'.born, hw2b, ⟨bm, hbm, rfl⟩, hsh, by rw [Array.back?_push, hE.2.2]⟩
              generalize ha2 : (a1.put (some d0) (.tuple #[.bool true, e'.key, e'.val])).put (some d1) (.bool true) = a2
              have htr2 : TR ρ n (Tr.set undef (path d1) (.bool true) (Tr.set undef (path d0) (.tuple [.bool true, e.key, e.val]) t0)) a2.tmps := by
                rw [← ha2]
                refine (J.tr.set hd0 ?_).set hd1 VR_bool
                simp only [VR]
                exact ⟨_, rfl, VRs.cons VR_bool (VRs.cons hE.1 (VRs.cons hE.2.1 VRs.nil))⟩
              have hdf2 : a2.defers = [] := by rw [← ha2]; exact J.df
              have hst : St ρ ⟨Tr.set .dead b (.mapAt ap e.born clock) h, nx, nx⟩ w2 ⟨[], x.ro⟩ n _ a2 := ⟨htr2, hsim2, hdf2⟩
              rcases hr _ _ _ _ _ _ hst with hbad | ⟨ex, a3, w3, hout, hgo⟩
              · rw [hbody] at hbad; cases hbad
              · rw [hbody] at hout
                cases ex <;> try exact hout.elim
                obtain ⟨ρ', hext, hst3⟩ := hout
                have hfr : ∀ r, r < w2.heap.size → w3.heap[r]? = w2.heap[r]? := fun r hr => hext.frame r hr fun p q hp _ _ => Nat.lt_of_lt_of_le (hs.sim.lt p q hp) hwmr
                have hcut : (ρ'.cut nx.num).sub ρ := by
                  intro p q hp
                  obtain ⟨hlt, hp'⟩ := Rho.cut_some hp
                  cases hc : ρ p with
                  | some q' => have := hext.sub _ _ hc; rw [hp'] at this; cases this; rfl
                  | none => have : nx.num ≤ p.num := (hext.new p q hp' hc).1; omega
                have J3 : LoopJ n ρ w bl bm t0 clock w3 a3 (seen1.push e'.born) clock := by
                  refine ⟨⟨hst3.tr.1, fun d => ?_⟩, ?_, ?_, ?_, ?_, Nat.le_refl _, ?_, ?_, ?_⟩
                  · by_cases hd : d ∈ d0 :: d1 :: dsts rest
                    · rw [ht0 d hd]; simp only [VR]
                    · have hk := (code_keeps (P := P) (n := n) (call := call) (d := d) rest).go hpl (fun h' => hd (by simp [h'])) ⟨[], x.ro⟩ (Tr.set undef (path d1) (.bool true) (Tr.set undef (path d0) (.tuple [.bool true, e.key, e.val]) t0)) ⟨Tr.set .dead b (.mapAt ap e.born clock) h, nx, nx⟩
                      rw [hbody] at hk
                      have hk : Tr.get undef (path d) t' = Tr.get undef (path d) _ := hk
                      have n0 : path d ≠ path d0 := fun q => hd (by rw [path_inj q]; simp)
                      have n1 : path d ≠ path d1 := fun q => hd (by rw [path_inj q]; simp)
                      rw [Tr.get_set_ne n1, Tr.get_set_ne n0] at hk
                      have hv := hst3.tr.2 d
                      rw [hk] at hv
                      exact VR.mono hcut _ _ (VR.cut hs.sim.lt _ _ _ hv (J.tr.2 d))
                  · have := hst3.ds; rw [hxds] at this; exact this
                  · exact Nat.le_trans (by rw [hw2s]; exact J.size) hext.size
                  · intro r hr hne
                    rw [hfr r (by rw [hw2s]; exact Nat.lt_of_lt_of_le hr J.size), hw2k r hne]
                    exact J.keep r hr hne
                  · rw [hfr _ (by rw [hw2s]; exact Nat.lt_of_lt_of_le hblt J.size)]; exact hw2b
                  · exact hext.os.trans (hw2o.1.trans J.os)
                  · exact hext.tape.trans (hw2o.2.1.trans J.tape)
                  · exact hext.output.trans (hw2o.2.2.trans J.output)
                have hshr := left_shrinks es' seen1 e' he'
                obtain ⟨a4, w4, seen4, last4, J4, harr⟩ := ih _ (by omega) w3 a3 (seen1.push e'.born) clock rfl (fun e2 he2 => hsubl e2 (by
                  obtain ⟨m1, m2⟩ := mem_left he2
                  unfold leftOf
                  simp only [Array.toList_filter, List.mem_filter]
                  refine ⟨m1, ?_⟩
                  simp at m2 ⊢
                  exact m2.1)) J3
                have hh := fun q k cs => loop_head (P := P) (n := n) (i := i) (d0 := d0) (d1 := d1) (idr := idr) (ty0 := ty0) (ty1 := ty1) (pos0 := pos0) (pos1 := pos1) (af0 := af0) (af1 := af1) (c := .cond (.tmp d1) .skip (.exit id)) (rest := rest) (a1 := a1) (w1 := w1) (w2 := w2) (vs := #[.bool true, e'.key, e'.val]) (bb := true) hd0 J.tr.1 (by rw [hiv]; exact hr0) rfl q k cs
                rw [ha2] at hh
                refine ⟨a4, w4, seen4, last4, J4, fun q k cs hq => ?_⟩
                refine .of_steps ((hh q _ cs).trans (.head (step_cond (t := true) ?_) (.head step_skip ?_))) (harr q k cs hq)
                · rw [← ha2]
                  show (((a1.tmps.setIfInBounds d0 _).setIfInBounds d1 (.bool true)).getD d1 Go.undef) = _
                  simp [Array.getD_eq_getD_getElem?, J.tr.1, hd1]
                · exact Steps.trans (hgo q _ cs hq) (.one step_inLoop)
        obtain ⟨a2, w2, seen2, last2, J, harr⟩ := key _ w a seen.toArray clock rfl (fun e he => he) ⟨htr0, hdf, Nat.le_refl _, fun _ _ _ => rfl, hiter, Nat.le_refl _, rfl, rfl, rfl⟩
        refine .inr ⟨.exit id, a2, w2, ⟨rfl, ρ, ?_, ⟨J.tr, ?_, ?_⟩⟩, fun q k cs hq => .of_steps (.one step_loop) (harr q k cs hq)⟩
        · refine ⟨.refl ρ, (fun p q hp hn => by rw [hn] at hp; cases hp), (fun p h1 h2 => absurd h1 (Nat.not_le.2 h2)), fun p q _ hd => ?_, fun p _ hq => ?_, Nat.le_refl _, ?_, J.size, fun r hr hf => J.keep r hr ?_, J.os, J.tape, J.output⟩
          · rw [loop_at (wm := wm)]
            by_cases e : p = b
            · subst e; exact absurd hlive hd
            · rw [if_neg e]
          · rw [loop_at (wm := wm), if_neg]
            rintro rfl
            rcases hq with hq | hq
            · rw [hbl] at hq; cases hq
            · have hq : p.num < (Pos.min p wm).num := hq
              rw [Pos.num_min] at hq; omega
          · show (Pos.min b wm).num ≤ wm.num
            rw [Pos.num_min]; omega
          · intro e
            have := hf b bl hbl e.symm hlive
            have this : b.num < (Pos.min b wm).num := this
            rw [Pos.num_min] at this; omega
        · exact loop_sim hs.sim hbl hlive J.size J.keep trivial
        · rw [hds, J.df]; rfl
end Go.Ref
end
section
namespace Go.Ref
open Go
section
variable {P : Program}
theorem cCode_ok {f : FuncId} {n : Nat} {call : CallF} (hcall : CallOk P call) (hm : P.follows .mixedOrders = true) : ∀ c : Code, CodeOk P f n c (cCode P n c call)
  | .skip => codeOk_norm (fun _ _ _ => rfl) fun _ _ _ _ _ _ => .one step_skip
  | .label l => codeOk_norm (fun _ _ _ => rfl) fun _ _ _ _ _ _ => .one step_label
  | .region id ops draw => by
    cases draw with
    | false => exact codeOk_region hcall
    | true => exact codeOk_draw hcall hm
  | .seq a b => codeOk_seq (cCode_ok hcall hm a) (cCode_ok hcall hm b)
  | .cond c a b => codeOk_cond (cCode_ok hcall hm a) (cCode_ok hcall hm b)
  | .block id b => codeOk_block (cCode_ok hcall hm b)
  | .loop (.seq r (.seq c rest)) => by
    have hb := cCode_ok (f := f) (n := n) hcall hm (.seq r (.seq c rest))
    have plain : CodeOk P f n (.loop (.seq r (.seq c rest))) (cLoop (cCode P n (.seq r (.seq c rest))) call) := codeOk_loop hb
    have hrest := cCode_ok (f := f) (n := n) hcall hm rest
    show CodeOk P f n _ ((match mapLoop? (.seq r (.seq c rest)) with
      | some (it, d0, d1, id, ws) => (match Nat.blt d0 n && Nat.blt d1 n with
        | true => cMapLoop (cLoop (cCode P n (.seq r (.seq c rest)))) (cCode P n rest) it d0 d1 id ((d0 :: d1 :: ws).map path)
        | false => cLoop (cCode P n (.seq r (.seq c rest))))
      | Option.none => cLoop (cCode P n (.seq r (.seq c rest)))) call)
    cases hl : mapLoop? (.seq r (.seq c rest)) with
    | none => simp only []; exact plain
    | some p =>
      obtain ⟨it, d0, d1, id, ws⟩ := p
      simp only []
      cases hlt : (Nat.blt d0 n && Nat.blt d1 n) with
      | false => exact plain
      | true => exact codeOk_mapLoop plain hb hrest hl hlt
  | .loop (.seq r (.skip)) => codeOk_loop (cCode_ok hcall hm (.seq r (.skip)))
  | .loop (.seq r (.label x1)) => codeOk_loop (cCode_ok hcall hm (.seq r (.label x1)))
  | .loop (.seq r (.region x1 x2 x3)) => codeOk_loop (cCode_ok hcall hm (.seq r (.region x1 x2 x3)))
  | .loop (.seq r (.cond x1 x2 x3)) => codeOk_loop (cCode_ok hcall hm (.seq r (.cond x1 x2 x3)))
  | .loop (.seq r (.block x1 x2)) => codeOk_loop (cCode_ok hcall hm (.seq r (.block x1 x2)))
  | .loop (.seq r (.loop x1)) => codeOk_loop (cCode_ok hcall hm (.seq r (.loop x1)))
  | .loop (.seq r (.scope x1)) => codeOk_loop (cCode_ok hcall hm (.seq r (.scope x1)))
  | .loop (.seq r (.exit x1)) => codeOk_loop (cCode_ok hcall hm (.seq r (.exit x1)))
  | .loop (.seq r (.goto x1)) => codeOk_loop (cCode_ok hcall hm (.seq r (.goto x1)))
  | .loop (.seq r (.ret)) => codeOk_loop (cCode_ok hcall hm (.seq r (.ret)))
  | .loop (.seq r (.rangeFunc x1 x2 x3 x4)) => codeOk_loop (cCode_ok hcall hm (.seq r (.rangeFunc x1 x2 x3 x4)))
  | .loop (.seq r (.refuse x1)) => codeOk_loop (cCode_ok hcall hm (.seq r (.refuse x1)))
  | .loop (.skip) => codeOk_loop (cCode_ok hcall hm (.skip))
  | .loop (.label x1) => codeOk_loop (cCode_ok hcall hm (.label x1))
  | .loop (.region x1 x2 x3) => codeOk_loop (cCode_ok hcall hm (.region x1 x2 x3))
  | .loop (.cond x1 x2 x3) => codeOk_loop (cCode_ok hcall hm (.cond x1 x2 x3))
  | .loop (.block x1 x2) => codeOk_loop (cCode_ok hcall hm (.block x1 x2))
  | .loop (.loop x1) => codeOk_loop (cCode_ok hcall hm (.loop x1))
  | .loop (.scope x1) => codeOk_loop (cCode_ok hcall hm (.scope x1))
  | .loop (.exit x1) => codeOk_loop (cCode_ok hcall hm (.exit x1))
  | .loop (.goto x1) => codeOk_loop (cCode_ok hcall hm (.goto x1))
  | .loop (.ret) => codeOk_loop (cCode_ok hcall hm (.ret))
  | .loop (.rangeFunc x1 x2 x3 x4) => codeOk_loop (cCode_ok hcall hm (.rangeFunc x1 x2 x3 x4))
  | .loop (.refuse x1) => codeOk_loop (cCode_ok hcall hm (.refuse x1))
  | .exit id => fun x t m ρ w a hs => .inr ⟨.exit id, a, w, ⟨rfl, ρ, .refl _ _ _, hs⟩, fun _ _ _ _ _ hk => .one (step_exit hk)⟩
  | .ret => fun x t m ρ w a hs => .inr ⟨.ret, a, w, ⟨ρ, .refl _ _ _, hs⟩, fun _ _ _ _ => ⟨_, .one step_ret⟩⟩
  | .scope _ | .goto _ | .rangeFunc .. | .refuse _ => fun _ _ _ _ _ _ _ => .inl rfl
theorem lnth_spec (k : RV → OR) : ∀ (i : Nat) (l : List RV), lnth i l k = .bad ∨ ∃ x, l[i]? = some x ∧ lnth i l k = k x
  | 0, [] => .inl rfl
  | 0, x :: _ => .inr ⟨x, rfl, rfl⟩
  | _ + 1, [] => .inl rfl
  | i + 1, _ :: l => lnth_spec k i l
theorem ltakeK_spec : ∀ (i : Nat) (l : List RV) (k : List RV → OR), ltakeK i l k = .bad ∨ (i ≤ l.length ∧ ltakeK i l k = k (l.take i))
  | 0, l, k => .inr ⟨Nat.zero_le _, by rw [List.take_zero]; rfl⟩
  | _ + 1, [], _ => .inl rfl
  | i + 1, x :: l, k => by
    rcases ltakeK_spec i l (fun y => k (x :: y)) with h | ⟨h1, h2⟩
    · exact .inl h
    · exact .inr ⟨by simpa using h1, by rw [List.take_succ_cons]; exact h2⟩
theorem loadO_spec {ρ : Rho} {m : Hp} {w : World} (hs : Sim ρ m w) {ty : TypeId} {x : RV} {v : Value} (hx : VR ρ x v) (hd : ∃ d, P.underlying ty = some d) (k : RV → OR) :
    loadO (aggT P ty) (size P ty) m x k = .bad ∨ ∃ y u, loadO (aggT P ty) (size P ty) m x k = k y ∧ (Instr.loadAt ty v).run P w = .ok u w ∧ VR ρ y u := by
  unfold loadO RV.ptrK
  cases x <;> try exact .inl rfl
  rename_i a o
  simp only [VR] at hx
  obtain ⟨b, hb, rfl⟩ := hx
  simp only []
  cases hc : m.at a <;> try exact .inl rfl
  all_goals
    rename_i cs
    obtain ⟨c, el, fz, h1, h2, h3, h4⟩ := hs.reads hb (by first | exact .inl hc | exact .inr hc)
    obtain ⟨d, hu⟩ := hd
    obtain ⟨i, hi, hsz⟩ := info_of_und hu
    simp only [RO.rdK]
    cases hagg : aggT P ty with
    | true =>
      simp only []
      rcases ltakeK_spec (size P ty) (ldrop o cs) (fun l => k (.agg l)) with h | ⟨hle, h⟩
      · exact .inl h
      · refine .inr ⟨_, .agg ((c.toList.drop (b.sh + o)).take (size P ty)).toArray, h, ?_, ?_⟩
        · obtain ⟨d', hu', hrow⟩ := und_agg hagg
          rw [ldrop_eq, List.length_drop] at hle
          refine run_loadAt_mid w b.r (b.sh + o) ty _ d' (rangeAt_of h1 _ _) hu' hrow ?_
          have hlen : ((c.toList.drop (b.sh + o)).take (size P ty)).length = size P ty := by
            rw [List.length_take, List.length_drop, Array.length_toList]; omega
          rw [hi, hlen]; simp [hsz]
        · simp only [VR]
          refine ⟨_, rfl, ?_⟩
          rw [ldrop_eq] at hle ⊢
          rw [List.length_drop] at hle
          by_cases h0 : size P ty = 0
          · rw [h0]; simpa using VRs.nil
          · exact h4.range (by omega)
    | false =>
      simp only []
      rcases lnth_spec k o cs with h | ⟨y, hy, h⟩
      · exact .inl h
      · obtain ⟨u, hu1, hu2⟩ := h4.get o y hy
        have hlt : o < cs.length := (List.getElem?_eq_some_iff.1 hy).1
        have hcell : w.cell? ⟨b.r, b.sh + o, Option.none⟩ = some u := by
          rw [List.getElem?_take_of_lt hlt, List.getElem?_drop] at hu1
          simp [World.cell?, h1]
          simpa using hu1
        exact .inr ⟨y, u, h, by simp [Instr.loadAt, Instr.sureAddr, loadVar, isAgg_false hagg hu, hcell], hu2⟩
def resultSem (tmps : Array Value) (r : ResultVar) : Sem Value :=
  match r with
  | .tmp t => pure (tmps.getD t Go.undef)
  | .cell a t => do loadVar t (← asAddr (tmps.getD a Go.undef))
theorem cResult_spec {ρ : Rho} {m : Hp} {w : World} {n : Nat} {t : Tr RV} {tmps : Array Value} (ht : TR ρ n t tmps) (hs : Sim ρ m w) (r : ResultVar) (k : RV → CR) :
    cResult P r t m k = .bad ∨ ∃ y u, cResult P r t m k = k y ∧ (resultSem tmps r).run P w = .ok u w ∧ VR ρ y u := by
  cases r with
  | tmp i => exact .inr ⟨_, _, rfl, rfl, ht.2 i⟩
  | cell i ty =>
    unfold cResult
    simp only []
    by_cases hv : validT P ty = true
    case neg => rw [if_neg hv]; exact .inl rfl
    rw [if_pos hv]
    rcases loadO_spec hs (ht.2 i) (validT_und hv) (fun v => .ok (.n .e v .e) m) with h | ⟨y, u, h, hr, hy⟩
    · rw [h]; exact .inl rfl
    · refine .inr ⟨y, u, by rw [h], ?_, hy⟩
      revert hr
      unfold resultSem Instr.loadAt
      simp only []
      generalize tmps.getD i Go.undef = z
      cases z <;> simp [Instr.sureAddr, asAddr, stuck]
      rename_i p
      cases p <;> simp
theorem cResults_spec {ρ : Rho} {m : Hp} {w : World} {n : Nat} {t : Tr RV} {tmps : Array Value} (ht : TR ρ n t tmps) (hs : Sim ρ m w) : ∀ (rs : List ResultVar) (k : List RV → CR),
    cResults P rs t m k = .bad ∨ ∃ ys us, cResults P rs t m k = k ys ∧ (rs.mapM (resultSem tmps)).run P w = .ok us w ∧ VRs ρ ys us
  | [], k => .inr ⟨[], [], rfl, rfl, VRs.nil⟩
  | r :: rs, k => by
    show cResult P r t m (fun v => cResults P rs t m fun vs => k (v :: vs)) = .bad ∨ ∃ ys us, cResult P r t m (fun v => cResults P rs t m fun vs => k (v :: vs)) = k ys ∧ _
    rcases cResult_spec ht hs r (fun v => cResults P rs t m fun vs => k (v :: vs)) with h | ⟨y, u, h, hr, hy⟩
    · exact .inl h
    · rcases cResults_spec ht hs rs (fun vs => k (y :: vs)) with h2 | ⟨ys, us, h2, hrs, hys⟩
      · exact .inl (h.trans h2)
      · exact .inr ⟨y :: ys, u :: us, h.trans h2, by simp [List.mapM_cons, hr, hrs], VRs.cons hy hys⟩
theorem run_results_of {fn : Func} {tmps : Array Value} {us : List Value} {w : World} (h : (fn.results.toList.mapM (resultSem tmps)).run P w = .ok us w) :
    (results fn tmps).run P w = .ok (match us with | [v] => v | l => .tuple l.toArray) w := by
  have h1 : (fn.results.mapM (resultSem tmps)).run P w = .ok us.toArray w := by
    have := List.mapM_toArray (m := Sem) (f := resultSem tmps) (l := fn.results.toList)
    rw [Array.toArray_toList] at this
    rw [this]
    simp [h]
  have h2 : results fn tmps = (do let vs ← fn.results.mapM (resultSem tmps); pure (if h : vs.size = 1 then vs[0] else .tuple vs)) := by
    unfold results
    congr 1
  rw [h2]
  simp only [Sem.run_bind, h1, Result.andThen_ok]
  match us with
  | [] => rfl
  | [v] => rfl
  | _ :: _ :: _ => rfl
theorem initT_get : ∀ (l : List RV) (p : Pos) (t : Tr RV) (q : Pos), Tr.get undef q (initT l p t) = if p.num ≤ q.num ∧ q.num < p.num + l.length then (l[q.num - p.num]?).getD undef else Tr.get undef q t
  | [], p, t, q => by rw [if_neg (by simp only [List.length_nil]; omega)]; rfl
  | v :: l, p, t, q => by
    show Tr.get undef q (initT l p.succ (Tr.set undef p v t)) = _
    rw [initT_get l p.succ _ q, Pos.num_succ]
    by_cases h1 : p.num + 1 ≤ q.num ∧ q.num < p.num + 1 + l.length
    · rw [if_pos h1, if_pos (by simp only [List.length_cons]; omega)]
      rw [show q.num - p.num = (q.num - (p.num + 1)) + 1 from by omega, List.getElem?_cons_succ]
    · rw [if_neg h1]
      by_cases h2 : q = p
      · subst h2
        rw [Tr.get_set, if_pos (by simp only [List.length_cons]; omega)]
        simp
      · rw [Tr.get_set_ne h2, if_neg]
        intro h3
        simp only [List.length_cons] at h3
        exact h2 (Pos.num_inj (by omega))
theorem mkTr_get : ∀ (l : List FunF) (p : Pos) (t : Tr FunF) (q : Pos), Tr.get badF q (mkTr l p t) = if p.num ≤ q.num ∧ q.num < p.num + l.length then (l[q.num - p.num]?).getD badF else Tr.get badF q t
  | [], p, t, q => by rw [if_neg (by simp only [List.length_nil]; omega)]; rfl
  | v :: l, p, t, q => by
    show Tr.get badF q (mkTr l p.succ (Tr.set badF p v t)) = _
    rw [mkTr_get l p.succ _ q, Pos.num_succ]
    by_cases h1 : p.num + 1 ≤ q.num ∧ q.num < p.num + 1 + l.length
    · rw [if_pos h1, if_pos (by simp only [List.length_cons]; omega)]
      rw [show q.num - p.num = (q.num - (p.num + 1)) + 1 from by omega, List.getElem?_cons_succ]
    · rw [if_neg h1]
      by_cases h2 : q = p
      · subst h2
        rw [Tr.get_set, if_pos (by simp only [List.length_cons]; omega)]
        simp
      · rw [Tr.get_set_ne h2, if_neg]
        intro h3
        simp only [List.length_cons] at h3
        exact h2 (Pos.num_inj (by omega))
theorem table_get (f : Nat) : Tr.get badF (path f) (table P) = match P.funcs[f]? with | some fn => cFunc P fn | Option.none => badF := by
  unfold table
  rw [mkTr_get, num_path, Pos.num_h, Tr.get_e]
  simp only [List.length_map, Array.length_toList, Nat.add_sub_cancel, List.getElem?_map, Array.getElem?_toList]
  by_cases h : f < P.funcs.size
  · rw [if_pos (by omega)]
    simp [Array.getElem?_eq_getElem h]
  · rw [if_neg (by omega), Array.getElem?_eq_none (by omega)]
theorem enter_tr {ρ : Rho} {n : Nat} {args : List RV} {vs : Array Value} (h : VRs ρ args vs.toList) (hn : args.length ≤ n) :
    TR ρ n (initT args .h .e) (vs ++ Array.replicate (n - vs.size) Go.undef) := by
  have hl : args.length = vs.size := by have := h.length; rw [Array.length_toList] at this; exact this
  refine ⟨by simp; omega, fun i => ?_⟩
  rw [initT_get, num_path, Pos.num_h, Tr.get_e]
  simp only [Nat.add_sub_cancel]
  by_cases hi : i < args.length
  · rw [if_pos (by omega)]
    obtain ⟨v, hv, hr⟩ := h.get i args[i] (List.getElem?_eq_getElem hi)
    have : (vs ++ Array.replicate (n - vs.size) Go.undef).getD i Go.undef = v := by
      rw [Array.getD_eq_getD_getElem?, Array.getElem?_append_left (by omega)]
      rw [show vs[i]? = some v from by simpa using hv]; rfl
    rw [this, List.getElem?_eq_getElem hi]
    exact hr
  · rw [if_neg (by omega)]
    have : (vs ++ Array.replicate (n - vs.size) Go.undef).getD i Go.undef = Go.undef := by
      rw [Array.getD_eq_getD_getElem?, Array.getElem?_append_right (by omega)]
      by_cases h2 : i - vs.size < n - vs.size
      · simp [h2]
      · simp [h2]
    rw [this]; exact VR_undef ρ
theorem cFunc_ok {call : CallF} (hcall : CallOk P call) (hm : P.follows .mixedOrders = true) {f : FuncId} {fn : Func} (hf : P.funcs[f]? = some fn) {args : List RV} {m : Hp} {v : RV} {m' : Hp} (h : cFunc P fn call args m = .ok v m')
    {ρ : Rho} {w : World} {vs : Array Value} (hs : Sim ρ m w) (ha : VRs ρ args vs.toList) :
    (fn.name == "runtime.NumGoroutine") = false ∧ fn.body.isNone = false ∧ ∃ ρ' w' v', FunRet P f vs w v' w' ∧ Ext ρ m w ρ' m' w' ∧ Sim ρ' m' w' ∧ VR ρ' v v' := by
  unfold cFunc at h
  cases hname : (fn.name == "runtime.NumGoroutine") with
  | true => simp only [hname] at h; cases h
  | false =>
    simp only [hname] at h
    cases hbody : fn.body with
    | none => simp only [hbody] at h; cases h
    | some c =>
      simp only [hbody] at h
      refine ⟨rfl, rfl, ?_⟩
      cases hn : Nat.ble (llen args) fn.ntmps with
      | false => simp only [hn] at h; cases h
      | true =>
        simp only [hn] at h
        rw [llen_eq] at hn
        have hn := Nat.le_of_ble_eq_true hn
        have htr := enter_tr ha hn
        have hst : St ρ m w ⟨[], Option.none⟩ fn.ntmps (initT args .h .e) { tmps := vs ++ Array.replicate (fn.ntmps - vs.size) Go.undef, defers := [] } := ⟨htr, hs, rfl⟩
        have fin : ∀ (x : Aux) (t : Tr RV) (m1 : Hp), (match x with | ⟨[], _⟩ => cResults P fn.results.toList t m1 fun l => .ok (finR l) m1 | _ => .bad) = .ok v m' → ∀ ρ1 w1 a1, Ext ρ m w ρ1 m1 w1 → St ρ1 m1 w1 x fn.ntmps t a1 →
            a1.defers = [] ∧ ∃ v', (results fn a1.tmps).run P w1 = .ok v' w1 ∧ Ext ρ m w ρ1 m' w1 ∧ Sim ρ1 m' w1 ∧ VR ρ1 v v' := by
          intro x t m1 hx ρ1 w1 a1 he hst1
          obtain ⟨ds, ro⟩ := x
          cases ds with
          | cons => cases hx
          | nil =>
            simp only [] at hx
            rcases cResults_spec hst1.tr hst1.sim fn.results.toList (fun l => .ok (finR l) m1) with h0 | ⟨ys, us, h0, hr, hys⟩
            · rw [h0] at hx; cases hx
            · rw [h0] at hx
              cases hx
              refine ⟨hst1.ds, _, run_results_of hr, he, hst1.sim, ?_⟩
              have hl := hys.length
              match ys, us, hys, hl with
              | [], [], _, _ => exact VR_undef ρ1
              | [y], [u], hys, _ => exact (VRs.cons_iff.1 hys).1
              | y :: y' :: ys, u :: u' :: us, hys, _ =>
                show VR ρ1 (.tuple (y :: y' :: ys)) (.tuple (u :: u' :: us).toArray)
                simp only [VR]
                exact ⟨_, rfl, hys⟩
              | [y], u :: u' :: us, _, hl => simp at hl
              | y :: y' :: ys, [u], _, hl => simp at hl
        have hcode := cCode_ok (f := f) (n := fn.ntmps) hcall hm c ⟨[], Option.none⟩ (initT args .h .e) m ρ w _ hst
        let b : Frame := { (default : Frame) with fn := f, kind := .normal }
        have henter : Frame.enter P f vs .normal = b.at { tmps := vs ++ Array.replicate (fn.ntmps - vs.size) Go.undef, defers := [] } [.code c] := by
          simp [Frame.enter, Frame.at, hf, hbody, b]
        rcases hcode with hbad | ⟨e, a1, w1, ho, hg⟩
        · rw [hbad] at h; cases h
        · cases hr : cCode P fn.ntmps c call ⟨[], Option.none⟩ (initT args .h .e) m with
          | bad => rw [hr] at h; cases h
          | exit i x1 t1 m1 => rw [hr] at h; cases h
          | norm x1 t1 m1 =>
            rw [hr] at h ho
            cases e <;> try exact ho.elim
            obtain ⟨ρ1, h1, h2⟩ := ho
            obtain ⟨hd, v', hres, he, hs', hv⟩ := fin x1 t1 m1 h ρ1 w1 a1 h1 h2
            refine ⟨ρ1, w1, v', fun cs => ?_, he, hs', hv⟩
            rw [henter]
            exact ⟨_, Steps.trans (hg b [] cs rfl) (.one step_end), rfl, rfl, hd, rfl, fn, hf, hres⟩
          | ret x1 t1 m1 =>
            rw [hr] at h ho
            cases e <;> try exact ho.elim
            obtain ⟨ρ1, h1, h2⟩ := ho
            obtain ⟨hd, v', hres, he, hs', hv⟩ := fin x1 t1 m1 h ρ1 w1 a1 h1 h2
            refine ⟨ρ1, w1, v', fun cs => ?_, he, hs', hv⟩
            rw [henter]
            obtain ⟨todo, hst⟩ := hg b [] cs rfl
            exact ⟨_, hst, rfl, rfl, hd, rfl, fn, hf, hres⟩
theorem callF_ok (hm : P.follows .mixedOrders = true) : ∀ k, CallOk P (callF (table P) k)
  | 0 => fun f args m v m' h => by cases h
  | k + 1 => by
    intro f args m v m' h ρ w vs hs ha
    have h' : Tr.get badF (path f) (table P) (callF (table P) k) args m = .ok v m' := h
    rw [table_get] at h'
    cases hf : P.funcs[f]? with
    | none => rw [hf] at h'; cases h'
    | some fn =>
      rw [hf] at h'
      obtain ⟨h1, h2, h3⟩ := cFunc_ok (callF_ok hm k) hm hf h' hs ha
      exact ⟨⟨fn, rfl, h1, h2⟩, h3⟩
theorem calls_of_run (hm : P.follows .mixedOrders = true) {k : Nat} {f : FuncId} {args : List RV} {m m' : Hp} {v : RV} (h : callF (table P) k (.fn f) args m = .ok v m') {ρ : Rho} {w : World} {vs : Array Value} (hs : Sim ρ m w) (ha : VRs ρ args vs.toList) :
    Calls P f vs w fun e w' => ∃ ρ' v', e = .returned v' ∧ Ext ρ m w ρ' m' w' ∧ Sim ρ' m' w' ∧ VR ρ' v v' := by
  obtain ⟨_, ρ', w', v', h1, h2, h3, h4⟩ := callF_ok hm k f args m v m' h ρ w vs hs ha
  intro cs
  obtain ⟨fr, g1, g2, g3⟩ := h1 cs
  exact ⟨.returned v', w', fr, ⟨ρ', v', rfl, h2, h3, h4⟩, g1, g2, g3⟩
theorem runB_ok (hm : P.follows .mixedOrders = true) {f : FuncId} {b : Bool} (h : runB P f = some b) (w : World) :
    ∃ w', FunRet P f #[] w (.bool b) w' ∧ w.heap.size ≤ w'.heap.size ∧ (∀ r, r < w.heap.size → w'.heap[r]? = w.heap[r]?) ∧ w'.os = w.os ∧ w'.tape = w.tape ∧ w'.output = w.output := by
  unfold runB at h
  split at h
  · rename_i b' m' hr
    cases h
    have hs : Sim (fun _ => Option.none) start w := ⟨(fun _ _ h => by cases h), (fun _ _ h => by cases h), (fun _ _ h => by cases h), (fun _ _ _ _ h => by cases h)⟩
    obtain ⟨_, ρ', w', v', h1, h2, _, h4⟩ := callF_ok hm 1000 f [] start _ _ hr _ w #[] hs VRs.nil
    simp only [VR] at h4
    subst h4
    exact ⟨w', h1, h2.size, fun r hr => h2.frame r hr (fun _ _ h => by cases h), h2.os, h2.tape, h2.output⟩
  · cases h
end
end Go.Ref
end
section
namespace Go.Ref
open Go Go.RowKit
noncomputable def lay (vals : List Value) (bs : List Blk) : Rho := fun p => if p.num ≤ vals.length then (vals[p.num - 1]?).map (fun v => ⟨0, 0, 0, v⟩) else bs[p.num - 1 - vals.length]?
theorem lay_val {vals : List Value} {bs : List Blk} {i : Nat} {v : Value} (h : vals[i]? = some v) : lay vals bs (path i) = some ⟨0, 0, 0, v⟩ := by
  unfold lay
  have hlt := (List.getElem?_eq_some_iff.1 h).1
  rw [num_path, if_pos (by omega)]
  simp [h]
theorem lay_blk {vals : List Value} {bs : List Blk} {i : Nat} {b : Blk} (h : bs[i]? = some b) : lay vals bs (path (vals.length + i)) = some b := by
  unfold lay
  rw [num_path, if_neg (by omega)]
  rw [show vals.length + i + 1 - 1 - vals.length = i from by omega]
  exact h
theorem lay_some {vals : List Value} {bs : List Blk} {p : Pos} {b : Blk} (h : lay vals bs p = some b) : (∃ i, i < vals.length ∧ p = path i) ∨ ∃ i, bs[i]? = some b ∧ p = path (vals.length + i) := by
  unfold lay at h
  have hp := p.num_pos
  split at h
  · exact .inl ⟨p.num - 1, by omega, Pos.num_inj (by rw [num_path]; omega)⟩
  · exact .inr ⟨p.num - 1 - vals.length, h, Pos.num_inj (by rw [num_path]; omega)⟩
theorem sim_ro {ρ : Rho} {m : Hp} {w : World} (hlt : ∀ a b, ρ a = some b → a.num < m.nx.num) (ho : ∀ a b, ρ a = some b → m.at a = .dead ∨ ∃ cs, m.at a = .ro cs ∧ ObjR ρ (.ro cs) b w) : Sim ρ m w := by
  refine ⟨hlt, fun a b hb hd => ?_, fun a b hb => ?_, fun a b a' b' hb _ _ hw _ => ?_⟩
  · rcases ho a b hb with h | ⟨cs, h, c, el, fz, h1, _⟩
    · exact absurd h hd
    · exact (Array.getElem?_eq_some_iff.1 h1).1
  · rcases ho a b hb with h | ⟨cs, h, h1⟩
    · rw [h]; trivial
    · rw [h]; exact h1
  · rcases ho a b hb with h | ⟨cs, h, _⟩ <;> (rw [h] at hw; exact hw.elim)
theorem below_ro {ρ ρ' : Rho} {m m' : Hp} {w w' : World} (ho : ∀ a b, ρ a = some b → ¬ (m.at a).wr) (he : Ext ρ m w ρ' m' w') : Below w.heap.size w w' :=
  ⟨he.os, he.tape, he.output, he.size, fun k hk => he.frame k hk fun a b hb _ hw => absurd hw (ho a b hb)⟩
theorem at_set {t : Tr RO} {nx wm : Pos} {a p : Pos} {o : RO} : (Hp.mk (Tr.set .dead a o t) nx wm).at p = (open Classical in if p = a then o else (Hp.mk t nx wm).at p) := by
  unfold Hp.at
  by_cases e : p = a
  · subst e; rw [if_pos rfl, Tr.get_set]
  · rw [if_neg e, Tr.get_set_ne e]
theorem at_e {nx wm : Pos} (p : Pos) : (Hp.mk .e nx wm).at p = .dead := Tr.get_e p
end Go.Ref
end
section
open Go Go.Ref
namespace Go.Ref
inductive Cls where
  | k | t | one | zero | v
noncomputable def row (base : Nat) (c : Cls) : List RV :=
  match c with
  | .k => [.symI (path base) [1], .symI (path (base + 1)) [], .symI (path (base + 2)) [], .symI (path (base + 3)) [], .symV (path (base + 4)), .symV (path (base + 5))]
  | .t => [.int .i64 1, .symI (path (base + 1)) [], .symI (path (base + 2)) [1], .symI (path (base + 3)) [], .symV (path (base + 4)), .symV (path (base + 5))]
  | .one => [.int .i64 1, .symI (path (base + 1)) [], .int .i64 1, .int .i64 1, .symV (path (base + 4)), .symV (path (base + 5))]
  | .zero => [.int .i64 1, .symI (path (base + 1)) [], .int .i64 1, .int .i64 0, .symV (path (base + 4)), .symV (path (base + 5))]
  | .v => [.int .i64 1, .symI (path (base + 1)) [], .int .i64 1, .symI (path (base + 3)) [0, 1], .symV (path (base + 4)), .symV (path (base + 5))]
def clsOf (f0 f2 f3 : Int) : Cls := if f0 = 1 then if f2 = 1 then if f3 = 1 then .one else if f3 = 0 then .zero else .v else .t else .k
theorem symV_back {ρ : Rho} {p : Pos} {u v : Value} (h : ρ p = some ⟨0, 0, 0, u⟩) (hv : VR ρ (.symV p) v) : v = u := by
  simp only [VR] at hv
  obtain ⟨b, hb, rfl, _⟩ := hv
  rw [h] at hb; cases hb; rfl
theorem int_back {ρ : Rho} {k : IntKind} {n : Int} {v : Value} (hv : VR ρ (.int k n) v) : v = .int k n := by simpa only [VR] using hv
end Go.Ref
end
section
open Go Go.Ref
namespace Go.Ref
theorem row_cells {w : World} {ad : Addr} {cs : List Value} (h : ∀ i u, cs[i]? = some u → w.cell? (ad.add i) = some u) (hne : cs ≠ []) :
    ∃ b off c el fz, ad = ⟨b, off, none⟩ ∧ w.heap[b]? = some (.cells c el fz) ∧ off + cs.length ≤ c.size ∧ (c.toList.drop off).take cs.length = cs := by
  obtain ⟨b, off, spot⟩ := ad
  have h0 : ∃ u, cs[0]? = some u := by cases cs with | nil => exact absurd rfl hne | cons u _ => exact ⟨u, rfl⟩
  obtain ⟨u0, hu0⟩ := h0
  have hc0 := h 0 u0 hu0
  have hsp : spot = none := by
    cases spot with
    | none => rfl
    | some s =>
      exfalso
      revert hc0
      simp [Addr.add, World.cell?]
      split <;> simp
  subst hsp
  have hcell : ∀ i u, cs[i]? = some u → w.cell? ⟨b, off + i, none⟩ = some u := fun i u hu => by have := h i u hu; rwa [Addr.add_mid] at this
  cases hb : w.heap[b]? with
  | none => have := hcell 0 u0 hu0; simp [World.cell?, hb] at this
  | some o =>
    cases o
    case cells c el fz =>
      have hget : ∀ i u, cs[i]? = some u → c[off + i]? = some u := fun i u hu => by have := hcell i u hu; simpa [World.cell?, hb] using this
      have hlen : off + cs.length ≤ c.size := by
        have hl : cs.length - 1 < cs.length := by have := List.length_pos_iff.2 hne; omega
        have := hget (cs.length - 1) _ (List.getElem?_eq_getElem hl)
        have := (Array.getElem?_eq_some_iff.1 this).1
        omega
      refine ⟨b, off, c, el, fz, rfl, hb, hlen, ?_⟩
      apply List.ext_getElem?
      intro i
      rw [List.getElem?_take]
      by_cases hi : i < cs.length
      · rw [if_pos hi, List.getElem?_drop]
        have := hget i _ (List.getElem?_eq_getElem hi)
        rw [List.getElem?_eq_getElem hi]
        simpa using this
      · rw [if_neg hi, List.getElem?_eq_none (by omega)]
    all_goals (have := hcell 0 u0 hu0; simp [World.cell?, hb] at this)
end Go.Ref
end
section
open Go Go.Ref
namespace Go.Ref
theorem objR_ro {ρ : Rho} {w : World} {bk off : Nat} {c : Array Value} {el : TypeId} {fz : Nat × Nat} {cs : List Value} {rs : List RV} (hb : w.heap[bk]? = some (.cells c el fz)) (hl : off + cs.length ≤ c.size) (ht : (c.toList.drop off).take cs.length = cs) (hr : VRs ρ rs cs) :
    ObjR ρ (.ro rs) ⟨bk, off, c.size, .nilFunc⟩ w := by
  have hn := hr.length
  refine ⟨c, el, fz, hb, rfl, by rw [hn]; exact hl, ?_⟩
  show VRs ρ rs ((c.toList.drop off).take rs.length)
  rw [hn, ht]; exact hr
end Go.Ref
end
section
open Go Go.Ref Go.Proofs Go.RowKit Go.Proofs.Ytgbpdfkobelbcaa.PSimpFolds Go.Proofs.YtgbpdfkobelbcaaW.PrintWords
namespace Go.Ref
noncomputable def outV (r : CR) : Option RV := match r with | .ok v _ => some v | _ => none
theorem outV_ok {r : CR} {v : RV} (h : outV r = some v) : ∃ m, r = .ok v m := by
  unfold outV at h
  split at h
  · cases h; exact ⟨_, rfl⟩
  · cases h
noncomputable def treeOf : Nat → List (List RV) → Tr RO
  | _, [] => .e
  | N, rs :: t => Tr.set .dead (path N) (.ro rs) (treeOf (N + 1) t)
theorem treeOf_lt {nx wm : Pos} : ∀ (rss : List (List RV)) (N i : Nat), i < N → (Hp.mk (treeOf N rss) nx wm).at (path i) = .dead
  | [], _, i, _ => at_e (path i)
  | rs :: t, N, i, h => by
    show (Hp.mk (Tr.set .dead (path N) (.ro rs) (treeOf (N + 1) t)) nx wm).at (path i) = .dead
    rw [at_set, if_neg (fun e => by have := path_inj e; omega)]
    exact treeOf_lt t (N + 1) i (by omega)
theorem treeOf_at {nx wm : Pos} : ∀ (rss : List (List RV)) (N i : Nat) (rs : List RV), rss[i]? = some rs → (Hp.mk (treeOf N rss) nx wm).at (path (N + i)) = .ro rs
  | [], _, _, _, h => by simp at h
  | r0 :: t, N, 0, rs, h => by
    cases h
    show (Hp.mk (Tr.set .dead (path N) (.ro r0) (treeOf (N + 1) t)) nx wm).at (path (N + 0)) = .ro r0
    rw [at_set]; exact if_pos rfl
  | r0 :: t, N, i + 1, rs, h => by
    show (Hp.mk (Tr.set .dead (path N) (.ro r0) (treeOf (N + 1) t)) nx wm).at (path (N + (i + 1))) = .ro rs
    rw [at_set, if_neg (fun e => by have := path_inj e; omega)]
    have := treeOf_at (nx := nx) (wm := wm) t (N + 1) i rs h
    rwa [show N + 1 + i = N + (i + 1) by omega] at this
theorem run_core (hm : Try.prog.follows .mixedOrders = true) {f : FuncId} {K N M : Nat} {args : List RV} {res : RV} {vals : List Value} {bs : List Blk} {rss : List (List RV)} {w : World} {vs : Array Value}
    (hN : vals.length = N) (hM : N + bs.length ≤ M) (hO : ∀ (i : Nat) (b : Blk), bs[i]? = some b → ∃ rs : List RV, rss[i]? = some rs ∧ ObjR (lay vals bs) (.ro rs) b w) (ha : VRs (lay vals bs) args vs.toList)
    (hrun : outV (callF (table Try.prog) K (.fn f) args ⟨treeOf N rss, path M, path M⟩) = some res) :
    Calls Try.prog f vs w fun e w' => ∃ ρ' m' v', e = .returned v' ∧ callF (table Try.prog) K (.fn f) args ⟨treeOf N rss, path M, path M⟩ = .ok res m' ∧ (lay vals bs).sub ρ' ∧ Below w.heap.size w w' ∧ Sim ρ' m' w' ∧ VR ρ' res v' ∧ (∀ q b, ρ' q = some b → (m'.at q).wr → w.heap.size ≤ b.r) := by
  subst hN
  obtain ⟨m', hr⟩ := outV_ok hrun
  have hat : ∀ a b, lay vals bs a = some b → (Hp.mk (treeOf vals.length rss) (path M) (path M)).at a = .dead ∨ ∃ cs, (Hp.mk (treeOf vals.length rss) (path M) (path M)).at a = .ro cs ∧ ObjR (lay vals bs) (.ro cs) b w := by
    intro a b hab
    rcases lay_some hab with ⟨i, hi, rfl⟩ | ⟨i, hi, rfl⟩
    · exact .inl (treeOf_lt _ _ _ hi)
    · obtain ⟨rs, hrs, ho⟩ := hO i b hi
      exact .inr ⟨rs, treeOf_at _ _ _ _ hrs, ho⟩
  have hsim : Sim (lay vals bs) ⟨treeOf vals.length rss, path M, path M⟩ w := by
    refine sim_ro (fun a b hab => ?_) hat
    show a.num < (path M).num
    rw [num_path]
    rcases lay_some hab with ⟨i, hi, rfl⟩ | ⟨i, hi, rfl⟩
    · rw [num_path]; omega
    · have := (List.getElem?_eq_some_iff.1 hi).1
      rw [num_path]; omega
  refine (calls_of_run hm hr hsim ha).mono ?_
  rintro e w' ⟨ρ', v', rfl, he, hs', hv⟩
  have hnw : ∀ a b, lay vals bs a = some b → ¬ ((Hp.mk (treeOf vals.length rss) (path M) (path M)).at a).wr := fun a b hab hw => by
    rcases hat a b hab with h | ⟨cs, h, _⟩ <;> (rw [h] at hw; exact hw.elim)
  refine ⟨ρ', m', v', rfl, hr, he.sub, below_ro hnw he, hs', hv, fun q b hq hw => ?_⟩
  cases h0 : lay vals bs q with
  | some b0 => rw [he.dead q b0 h0 (hnw q b0 h0)] at hw; exact absurd hw (hnw q b0 h0)
  | none =>
    rcases (he.new q b hq h0).2 with h | ⟨a0, b0, h1, _, h3, _⟩
    · exact h
    · exact absurd h3 (hnw a0 b0 h1)
structure Pa where
  x : S24
  A : Option Addr
  c : Nat
def Pa.v5 (p : Pa) : List Value := [.int .i64 p.x.f0, .int .i64 p.x.f1, .int .i64 p.x.f2, .int .i64 p.x.f3, .string p.x.f4]
def Pa.sl (p : Pa) : Value := .slice p.A p.x.f5.length p.c
def Pa.v6 (p : Pa) : List Value := [.int .i64 p.x.f0, .int .i64 p.x.f1, .int .i64 p.x.f2, .int .i64 p.x.f3, .string p.x.f4, .slice p.A p.x.f5.length p.c]
def Pa.v7 (p : Pa) : List Value := [.int .i64 p.x.f0, .int .i64 p.x.f1, .int .i64 p.x.f2, .int .i64 p.x.f3, .string p.x.f4, .slice p.A p.x.f5.length p.c, .int .i64 (p.x.f5.length : Nat)]
def Pa.Rd (w : World) (ok : Nat → Prop) (p : Pa) : Prop := p.x.f5.length ≤ p.c ∧ Kd.F k24 w ok p.A p.x.f5.length p.x.f5
inductive Pt where
  | c (k : Int)
  | s (ne : List Int)
inductive Ag where
  | v
  | l (ne : List Int)
  | r (n : Nat) (b : Nat)
structure Hd where
  a : Pt
  b : Pt
  c : Pt
  d : Pt
  g : Ag
noncomputable def Pt.rv : Pt → Nat → RV
  | .c k, _ => .int .i64 k
  | .s ne, i => .symI (path i) ne
noncomputable def Ag.rv : Ag → Nat → RV
  | .v, i => .symV (path i)
  | .l ne, i => .symL (path i) (path (i + 1)) ne
  | .r n b, _ => .slice (path b) 0 n n (some 0)
noncomputable def Hd.rvs (h : Hd) (i : Nat) : List RV := [h.a.rv (7 * i), h.b.rv (7 * i + 1), h.c.rv (7 * i + 2), h.d.rv (7 * i + 3), .symV (path (7 * i + 4)), h.g.rv (7 * i + 5)]
def Pt.fit : Pt → Int → Prop
  | .c k, x => x = k
  | .s ne, x => x ∉ ne
def Ag.fit (ρ : Rho) : Ag → Pa → Prop
  | .v, _ => True
  | .l ne, p => (p.x.f5.length : Int) ∉ ne
  | .r n b, p => 0 < n ∧ VR ρ (.slice (path b) 0 n n (some 0)) p.sl
def Hd.fit (ρ : Rho) (h : Hd) (p : Pa) : Prop := h.a.fit p.x.f0 ∧ h.b.fit p.x.f1 ∧ h.c.fit p.x.f2 ∧ h.d.fit p.x.f3 ∧ h.g.fit ρ p
def Sees7 (ρ : Rho) (i : Nat) (p : Pa) : Prop := ∀ k u, p.v7[k]? = some u → ρ (path (7 * i + k)) = some ⟨0, 0, 0, u⟩
theorem Sees7.mono {ρ ρ' : Rho} {i : Nat} {p : Pa} (h : Sees7 ρ i p) (hs : ρ.sub ρ') : Sees7 ρ' i p := fun k u hu => hs _ _ (h k u hu)
theorem Hd.fit.mono {ρ ρ' : Rho} {h : Hd} {p : Pa} (hf : h.fit ρ p) (hs : ρ.sub ρ') : h.fit ρ' p := by
  obtain ⟨h0, h1, h2, h3, h4⟩ := hf
  refine ⟨h0, h1, h2, h3, ?_⟩
  cases hg : h.g <;> rw [hg] at h4
  · trivial
  · exact h4
  · exact ⟨h4.1, VR.mono hs _ _ h4.2⟩
theorem pt_in {ρ : Rho} {t : Pt} {x : Int} {i : Nat} (h : ρ (path i) = some ⟨0, 0, 0, .int .i64 x⟩) (hf : t.fit x) : VR ρ (t.rv i) (.int .i64 x) := by
  cases t with
  | c k => cases hf; simp only [Pt.rv, VR]
  | s ne => simp only [Pt.rv, VR]; exact ⟨_, x, h, rfl, rfl, hf⟩
theorem pt_out {ρ : Rho} {t : Pt} {x : Int} {i : Nat} {v : Value} (h : ρ (path i) = some ⟨0, 0, 0, .int .i64 x⟩) (hf : t.fit x) (hv : VR ρ (t.rv i) v) : v = .int .i64 x := by
  cases t with
  | c k => cases hf; simpa only [Pt.rv, VR] using hv
  | s ne =>
    simp only [Pt.rv, VR] at hv
    obtain ⟨b, n', hb, he, rfl, _⟩ := hv
    rw [h] at hb; cases hb
    exact he.symm
theorem hd_in {ρ : Rho} {h : Hd} {p : Pa} {i : Nat} (hs : Sees7 ρ i p) (hf : h.fit ρ p) : VRs ρ (h.rvs i) p.v6 := by
  obtain ⟨h0, h1, h2, h3, h4⟩ := hf
  refine VRs.cons (pt_in (hs 0 _ rfl) h0) (VRs.cons (pt_in (hs 1 _ rfl) h1) (VRs.cons (pt_in (hs 2 _ rfl) h2) (VRs.cons (pt_in (hs 3 _ rfl) h3) (VRs.cons ?_ (VRs.cons ?_ VRs.nil)))))
  · simp only [VR]; exact ⟨_, hs 4 _ rfl, rfl, rfl⟩
  · cases hg : h.g with
    | v => simp only [Ag.rv, VR]; exact ⟨_, hs 5 _ rfl, rfl, rfl⟩
    | l ne => rw [hg] at h4; simp only [Ag.rv, VR]; exact ⟨_, _, _, _, _, hs 5 _ rfl, hs 6 _ rfl, rfl, rfl, rfl, h4⟩
    | r n b => rw [hg] at h4; exact h4.2
theorem slice_same {ρ : Rho} {a : Pos} {n : Nat} {A : Option Addr} {l c : Nat} {v : Value} (hn : 0 < n) (h : VR ρ (.slice a 0 n n (some 0)) (.slice A l c)) (hv : VR ρ (.slice a 0 n n (some 0)) v) : ∃ c', v = .slice A l c' ∧ l ≤ c' := by
  simp only [VR] at h hv
  obtain ⟨b, off, c1, hb, he, h1, h2, h3, h4⟩ := h
  obtain ⟨b', off', c2, hb', rfl, k1, k2, k3, k4⟩ := hv
  rw [hb] at hb'; cases hb'
  injection he with e1 e2 e3
  subst e1; subst e2; subst e3
  have e : off' = off := by omega
  subst e
  exact ⟨c2, rfl, k2⟩
theorem hd_out {ρ : Rho} {h : Hd} {p : Pa} {i : Nat} {vs : List Value} {w : World} {ok : Nat → Prop} (hs : Sees7 ρ i p) (hf : h.fit ρ p) (hR : p.Rd w ok) (hv : VRs ρ (h.rvs i) vs) : Kd.FK k24 w ok p.x vs := by
  obtain ⟨h0, h1, h2, h3, h4⟩ := hf
  simp only [Hd.rvs, VRs] at hv
  obtain ⟨v0, _, rfl, a0, v1, _, rfl, a1, v2, _, rfl, a2, v3, _, rfl, a3, v4, _, rfl, a4, v5, _, rfl, a5, rfl⟩ := hv
  have e4 : v4 = .string p.x.f4 := symV_back (hs 4 _ rfl) a4
  have e5 : ∃ c', v5 = .slice p.A p.x.f5.length c' ∧ p.x.f5.length ≤ c' := by
    cases hg : h.g with
    | v => rw [hg] at a5; exact ⟨p.c, symV_back (hs 5 _ rfl) a5, hR.1⟩
    | l ne =>
      rw [hg] at a5
      simp only [Ag.rv, VR] at a5
      obtain ⟨b, bj, A, n, c, hb, _, e1, rfl, _⟩ := a5
      have := hs 5 _ rfl
      rw [hb] at this
      cases this
      injection e1 with e1 e2 e3
      subst e1; subst e2; subst e3
      exact ⟨_, rfl, hR.1⟩
    | r n b => rw [hg] at a5 h4; exact slice_same h4.1 h4.2 a5
  obtain ⟨c', rfl, hc'⟩ := e5
  rw [pt_out (hs 0 _ rfl) h0 a0, pt_out (hs 1 _ rfl) h1 a1, pt_out (hs 2 _ rfl) h2 a2, pt_out (hs 3 _ rfl) h3 a3, e4]
  exact k24_mkF w ok p.x hc' hR.2
noncomputable def rowsRV : Nat → List Hd → List RV
  | _, [] => []
  | i, h :: t => h.rvs i ++ rowsRV (i + 1) t
def FitAll (ρ : Rho) : Nat → List Hd → List Pa → Prop
  | _, [], [] => True
  | i, h :: t, p :: ps => Sees7 ρ i p ∧ h.fit ρ p ∧ FitAll ρ (i + 1) t ps
  | _, _, _ => False
theorem rows_in {ρ : Rho} : ∀ {i : Nat} {hs : List Hd} {ps : List Pa}, FitAll ρ i hs ps → VRs ρ (rowsRV i hs) (ps.flatMap Pa.v6)
  | _, [], [], _ => VRs.nil
  | i, h :: t, p :: ps, hf => by
    obtain ⟨h1, h2, h3⟩ := hf
    rw [List.flatMap_cons]
    exact (hd_in h1 h2).append (rows_in h3)
  | _, [], _ :: _, hf => hf.elim
  | _, _ :: _, [], hf => hf.elim
theorem sees7_lay : ∀ {ps : List Pa} {bs : List Blk} {i : Nat} {p : Pa}, ps[i]? = some p → Sees7 (lay (ps.flatMap Pa.v7) bs) i p := by
  intro ps bs i p hp k u hu
  refine lay_val ?_
  have hk : k < 7 := (List.getElem?_eq_some_iff.1 hu).1
  induction ps generalizing i with
  | nil => simp at hp
  | cons q t ih =>
    rw [List.flatMap_cons]
    cases i with
    | zero => cases hp; rw [List.getElem?_append_left (by show 7 * 0 + k < 7; omega)]; rwa [Nat.mul_zero, Nat.zero_add]
    | succ i =>
      rw [List.getElem?_append_right (by show 7 ≤ 7 * (i + 1) + k; omega)]
      have := ih (i := i) hp
      rwa [show 7 * (i + 1) + k - q.v7.length = 7 * i + k by show 7 * (i + 1) + k - 7 = _; omega]
theorem row_parts {w : World} {ok : Nat → Prop} : ∀ {A : Option Addr} {xs : List S24}, xs ≠ [] → Kd.F k24 w ok A xs.length xs → ∃ ps : List Pa, ps.map Pa.x = xs ∧ (∀ p ∈ ps, p.Rd w ok) ∧ ∃ b off c el fz, A = some ⟨b, off, none⟩ ∧ w.heap[b]? = some (.cells c el fz) ∧ off + (ps.flatMap Pa.v6).length ≤ c.size ∧ (c.toList.drop off).take (ps.flatMap Pa.v6).length = ps.flatMap Pa.v6 := by
  intro A xs hne hC
  obtain ⟨ad, _, rfl, _⟩ := Kd.F_get hC z24 0 (by omega) (by have := List.length_pos_iff.2 hne; omega)
  have hcells : ∀ j p, xs[j]? = some p → ∃ c : List Value, c.length = 6 ∧ Kd.FK k24 w ok p c ∧ ∀ i u, c[i]? = some u → w.cell? (ad.add (j * 6 + i)) = some u := by
    intro j p hp
    have hj := (List.getElem?_eq_some_iff.1 hp).1
    obtain ⟨ad', c, he, h1, h2, h3, _⟩ := Kd.F_get hC z24 j (by omega) (by omega)
    injection he with he
    subst he
    rw [Int.toNat_natCast, List.getD_eq_getElem?_getD, hp] at h2
    exact ⟨c, h1, h2, h3⟩
  have key : ∀ (l : List S24) (j0 : Nat), (∀ j p, l[j]? = some p → ∃ c : List Value, c.length = 6 ∧ Kd.FK k24 w ok p c ∧ ∀ i u, c[i]? = some u → w.cell? (ad.add ((j0 + j) * 6 + i)) = some u) →
      ∃ ps : List Pa, ps.map Pa.x = l ∧ (∀ p ∈ ps, p.Rd w ok) ∧ ∀ i u, (ps.flatMap Pa.v6)[i]? = some u → w.cell? (ad.add (j0 * 6 + i)) = some u := by
    intro l
    induction l with
    | nil => intro j0 _; exact ⟨[], rfl, by simp, by simp⟩
    | cons x t ih =>
      intro j0 hx
      obtain ⟨c, _, hK, hc⟩ := hx 0 x rfl
      obtain ⟨A5, c5, rfl, l5, g5⟩ := k24_openF hK
      obtain ⟨ps, e1, e2, e3⟩ := ih (j0 + 1) (fun j p hp => by
        obtain ⟨c, h1, h2, h3⟩ := hx (j + 1) p hp
        exact ⟨c, h1, h2, fun i u hu => by have := h3 i u hu; rwa [show j0 + (j + 1) = j0 + 1 + j by omega] at this⟩)
      refine ⟨⟨x, A5, c5⟩ :: ps, by rw [List.map_cons, e1], ?_, ?_⟩
      · intro p hp
        rcases List.mem_cons.1 hp with rfl | hp
        · exact ⟨l5, g5⟩
        · exact e2 p hp
      · intro i u hu
        rw [List.flatMap_cons] at hu
        by_cases hi : i < 6
        · rw [List.getElem?_append_left (by show i < 6; exact hi)] at hu
          exact hc i u hu
        · rw [List.getElem?_append_right (by show 6 ≤ i; omega)] at hu
          have := e3 (i - 6) u hu
          rwa [show (j0 + 1) * 6 + (i - 6) = j0 * 6 + i by omega] at this
  obtain ⟨ps, e1, e2, e3⟩ := key xs 0 (fun j p hp => by obtain ⟨c, h1, h2, h3⟩ := hcells j p hp; exact ⟨c, h1, h2, fun i u hu => by rw [Nat.zero_add]; exact h3 i u hu⟩)
  have hne' : ps.flatMap Pa.v6 ≠ [] := by
    cases ps with
    | nil => exact absurd e1.symm (by simpa using hne)
    | cons p t => rw [List.flatMap_cons]; simp [Pa.v6]
  obtain ⟨b, off, c, el, fz, rfl, h1, h2, h3⟩ := row_cells (fun i u hu => by have := e3 i u hu; rwa [Nat.zero_mul, Nat.zero_add] at this) hne'
  exact ⟨ps, e1, e2, b, off, c, el, fz, rfl, h1, h2, h3⟩
end Go.Ref
end
section
open Go Go.Ref Go.Proofs Go.RowKit Go.Proofs.Ytgbpdfkobelbcaa.PSimpFolds Go.Proofs.YtgbpdfkobelbcaaW.PrintWords
namespace Go.Ref
def Gives1 (w : World) (ok : Nat → Prop) (r : S24 × Bool) (x : Ending) (w' : World) : Prop := ∃ cs, x = .returned (.tuple #[.agg cs, .bool r.2]) ∧ Kd.FK k24 w' (fun k => ok k ∨ w.heap.size ≤ k) r.1 cs.toList ∧ Below w.heap.size w w'
def Rule (f : FuncId) (spec : S24 → S24 × Bool) : Prop := ∀ (w : World) (ok : Nat → Prop) (e : S24) (cs : Array Value), Kd.FK k24 w ok e cs.toList → Calls Try.prog f #[.agg cs] w (Gives1 w ok (spec e))
theorem Pa.Rd.below {w w' : World} {ok : Nat → Prop} {p : Pa} (h : p.Rd w ok) (hb : Below w.heap.size w w') : p.Rd w' (fun k => ok k ∨ w.heap.size ≤ k) := ⟨h.1, Kd.F_mono (Kd.F_below h.2 hb) (fun _ hk => .inl hk)⟩
theorem tuple_back {ρ : Rho} {rs : List RV} {b : Bool} {v : Value} (h : VR ρ (.tuple [.agg rs, .bool b]) v) : ∃ cs : Array Value, v = .tuple #[.agg cs, .bool b] ∧ VRs ρ rs cs.toList := by
  simp only [VR, VRs] at h
  obtain ⟨ts, rfl, v0, l0, e0, ⟨cs, rfl, h1⟩, v1, l1, rfl, rfl, rfl⟩ := h
  refine ⟨cs, ?_, h1⟩
  congr 1
  exact Array.toList_inj.1 e0
theorem out_part {ρ ρ' : Rho} {h : Hd} {p : Pa} {i : Nat} {b : Bool} {v : Value} {w w' : World} {ok : Nat → Prop} (hs : Sees7 ρ i p) (hf : h.fit ρ p) (hsub : ρ.sub ρ') (hR : p.Rd w ok) (hB : Below w.heap.size w w') (hv : VR ρ' (.tuple [.agg (h.rvs i), .bool b]) v) :
    Gives1 w ok (p.x, b) (.returned v) w' := by
  obtain ⟨cs, rfl, h1⟩ := tuple_back hv
  exact ⟨cs, rfl, hd_out (hs.mono hsub) (hf.mono hsub) (hR.below hB) h1, hB⟩
theorem rule0 (hm : Try.prog.follows .mixedOrders = true) {f : FuncId} {K : Nat} {h : Hd} {p : Pa} {w : World} {ok : Nat → Prop} {b : Bool} (hR : p.Rd w ok) (hf : h.fit (lay p.v7 []) p)
    (hrun : outV (callF (table Try.prog) K (.fn f) [.agg (h.rvs 0)] ⟨treeOf 7 [], path 7, path 7⟩) = some (.tuple [.agg (h.rvs 0), .bool b])) :
    Calls Try.prog f #[.agg p.v6.toArray] w (Gives1 w ok (p.x, b)) := by
  have hs : Sees7 (lay p.v7 []) 0 p := by
    have := sees7_lay (ps := [p]) (bs := []) (i := 0) (p := p) rfl
    rwa [List.flatMap_cons, List.flatMap_nil, List.append_nil] at this
  refine (run_core hm (vals := p.v7) (bs := []) (rss := []) (M := 7) rfl (by show 7 + 0 ≤ 7; omega) (fun i b hb => by simp at hb) ?_ hrun).mono ?_
  · refine VRs.cons ?_ VRs.nil
    simp only [VR]
    exact ⟨_, rfl, hd_in hs hf⟩
  · rintro e w' ⟨ρ', m', v', rfl, _, hsub, hB, _, hv, _⟩
    exact out_part hs hf hsub hR hB hv
theorem run1 (hm : Try.prog.follows .mixedOrders = true) {f : FuncId} {K N : Nat} {h0 : Hd} {hs : List Hd} {p : Pa} {ps : List Pa} {w : World} {ok : Nat → Prop} {res : RV} (hR : p.Rd w ok) (hne : p.x.f5 ≠ [])
    (hps : ps.map Pa.x = p.x.f5) {b off : Nat} {c : Array Value} {el : TypeId} {fz : Nat × Nat} (hA : p.A = some ⟨b, off, none⟩) (hb : w.heap[b]? = some (.cells c el fz)) (hl : off + (ps.flatMap Pa.v6).length ≤ c.size) (ht : (c.toList.drop off).take (ps.flatMap Pa.v6).length = ps.flatMap Pa.v6)
    (hN : 7 * (ps.length + 1) = N) (hg : h0.g = .r ps.length N) (hf0 : h0.a.fit p.x.f0 ∧ h0.b.fit p.x.f1 ∧ h0.c.fit p.x.f2 ∧ h0.d.fit p.x.f3)
    (hfs : ∀ ρ, (∀ i q, (p :: ps)[i]? = some q → Sees7 ρ i q) → FitAll ρ 1 hs ps)
    (hrun : outV (callF (table Try.prog) K (.fn f) [.agg (h0.rvs 0)] ⟨treeOf N [rowsRV 1 hs], path (N + 1), path (N + 1)⟩) = some res) :
    ∃ ρ, (∀ i q, (p :: ps)[i]? = some q → Sees7 ρ i q) ∧ FitAll ρ 0 (h0 :: hs) (p :: ps) ∧ Calls Try.prog f #[.agg p.v6.toArray] w fun e w' => ∃ ρ' m' v', e = .returned v' ∧ callF (table Try.prog) K (.fn f) [.agg (h0.rvs 0)] ⟨treeOf N [rowsRV 1 hs], path (N + 1), path (N + 1)⟩ = .ok res m' ∧ ρ.sub ρ' ∧ Below w.heap.size w w' ∧ Sim ρ' m' w' ∧ VR ρ' res v' ∧ (∀ q b, ρ' q = some b → (m'.at q).wr → w.heap.size ≤ b.r) := by
  have hlen : ((p :: ps).flatMap Pa.v7).length = N := by
    have : ∀ l : List Pa, (l.flatMap Pa.v7).length = 7 * l.length := by
      intro l; induction l with
      | nil => rfl
      | cons q t ih => rw [List.flatMap_cons, List.length_append, ih, List.length_cons]; show 7 + _ = _; omega
    rw [this, List.length_cons]; exact hN
  have hsee : ∀ i q, (p :: ps)[i]? = some q → Sees7 (lay ((p :: ps).flatMap Pa.v7) [⟨b, off, c.size, .nilFunc⟩]) i q := fun i q hq => sees7_lay hq
  have hfall := hfs _ hsee
  have hpl : p.x.f5.length = ps.length := by rw [← hps, List.length_map]
  have hpos : 0 < ps.length := by rw [← hpl]; exact List.length_pos_iff.2 hne
  have hsl : VR (lay ((p :: ps).flatMap Pa.v7) [⟨b, off, c.size, .nilFunc⟩]) (.slice (path N) 0 ps.length ps.length (some 0)) p.sl := by
    have hblk : lay ((p :: ps).flatMap Pa.v7) [⟨b, off, c.size, .nilFunc⟩] (path N) = some ⟨b, off, c.size, .nilFunc⟩ := by
      have := lay_blk (vals := (p :: ps).flatMap Pa.v7) (bs := [⟨b, off, c.size, .nilFunc⟩]) (i := 0) rfl
      rwa [Nat.add_zero, hlen] at this
    simp only [VR]
    refine ⟨_, off, p.c, hblk, ?_, Nat.le_refl _, by rw [← hpl]; exact hR.1, .inr rfl, by show off + p.c * 0 ≤ c.size; omega⟩
    show Value.slice p.A p.x.f5.length p.c = _
    rw [hA, hpl]
  have hf0' : h0.fit (lay ((p :: ps).flatMap Pa.v7) [⟨b, off, c.size, .nilFunc⟩]) p := by
    refine ⟨hf0.1, hf0.2.1, hf0.2.2.1, hf0.2.2.2, ?_⟩
    rw [hg]
    exact ⟨hpos, hsl⟩
  refine ⟨_, hsee, ⟨hsee 0 p rfl, hf0', hfall⟩, run_core hm (vals := (p :: ps).flatMap Pa.v7) (bs := [⟨b, off, c.size, .nilFunc⟩]) (rss := [rowsRV 1 hs]) hlen (by show N + 1 ≤ N + 1; omega) (fun i b' hb' => ?_) ?_ hrun⟩
  · cases i with
    | zero => cases hb'; exact ⟨_, rfl, objR_ro hb hl ht (rows_in hfall)⟩
    | succ i => simp at hb'
  · refine VRs.cons ?_ VRs.nil
    simp only [VR]
    exact ⟨_, rfl, hd_in (hsee 0 p rfl) hf0'⟩
theorem fitAll_get : ∀ {ρ : Rho} {i : Nat} {hs : List Hd} {ps : List Pa}, FitAll ρ i hs ps → ∀ (j : Nat) (h : Hd) (p : Pa), hs[j]? = some h → ps[j]? = some p → Sees7 ρ (i + j) p ∧ h.fit ρ p
  | _, _, [], [], _, _, _, _, h1, _ => by simp at h1
  | ρ, i, h :: t, p :: ps, hf, 0, _, _, h1, h2 => by cases h1; cases h2; exact ⟨hf.1, hf.2.1⟩
  | ρ, i, h :: t, p :: ps, hf, j + 1, h', p', h1, h2 => by
    have := fitAll_get hf.2.2 j h' p' h1 h2
    rwa [show i + 1 + j = i + (j + 1) by omega] at this
  | _, _, [], _ :: _, hf, _, _, _, _, _ => hf.elim
  | _, _, _ :: _, [], hf, _, _, _, _, _ => hf.elim
theorem rule1 (hm : Try.prog.follows .mixedOrders = true) {f : FuncId} {K N j : Nat} {h0 h : Hd} {hs : List Hd} {p q : Pa} {ps : List Pa} {w : World} {ok : Nat → Prop} {r : Bool} (hR : p.Rd w ok) (hRs : ∀ q ∈ ps, q.Rd w ok) (hne : p.x.f5 ≠ [])
    (hps : ps.map Pa.x = p.x.f5) {b off : Nat} {c : Array Value} {el : TypeId} {fz : Nat × Nat} (hA : p.A = some ⟨b, off, none⟩) (hb : w.heap[b]? = some (.cells c el fz)) (hl : off + (ps.flatMap Pa.v6).length ≤ c.size) (ht : (c.toList.drop off).take (ps.flatMap Pa.v6).length = ps.flatMap Pa.v6)
    (hN : 7 * (ps.length + 1) = N) (hg : h0.g = .r ps.length N) (hf0 : h0.a.fit p.x.f0 ∧ h0.b.fit p.x.f1 ∧ h0.c.fit p.x.f2 ∧ h0.d.fit p.x.f3)
    (hfs : ∀ ρ, (∀ i q, (p :: ps)[i]? = some q → Sees7 ρ i q) → FitAll ρ 1 hs ps) (hj : (h0 :: hs)[j]? = some h) (hq : (p :: ps)[j]? = some q)
    (hrun : outV (callF (table Try.prog) K (.fn f) [.agg (h0.rvs 0)] ⟨treeOf N [rowsRV 1 hs], path (N + 1), path (N + 1)⟩) = some (.tuple [.agg (h.rvs j), .bool r])) :
    Calls Try.prog f #[.agg p.v6.toArray] w (Gives1 w ok (q.x, r)) := by
  obtain ⟨ρ, _, hfa, hc⟩ := run1 hm hR hne hps hA hb hl ht hN hg hf0 hfs hrun
  refine hc.mono ?_
  rintro e w' ⟨ρ', m', v', rfl, _, hsub, hB, _, hv, _⟩
  have hq' := fitAll_get hfa j h q hj hq
  rw [Nat.zero_add] at hq'
  have hRq : q.Rd w ok := by
    cases j with
    | zero => cases hq; exact hR
    | succ j => exact hRs q (List.mem_of_getElem? hq)
  exact out_part hq'.1 hq'.2 hsub hRq hB hv
theorem new_row {ρ' : Rho} {m' : Hp} {w' : World} {q : Pos} {h : Hd} {p : Pa} {i B : Nat} {ok : Nat → Prop} {v : Value} (hS : Sim ρ' m' w') (hnew : ∀ q b, ρ' q = some b → (m'.at q).wr → B ≤ b.r) (hat : m'.at q = .cells (h.rvs i)) (hs : Sees7 ρ' i p) (hf : h.fit ρ' p) (hR : p.Rd w' (fun k => ok k ∨ B ≤ k)) (hv : VR ρ' (.slice q 0 1 1 none) v) :
    ∃ A c, v = .slice A 1 c ∧ 1 ≤ c ∧ Kd.F k24 w' (fun k => ok k ∨ B ≤ k) A 1 [p.x] := by
  simp only [VR] at hv
  obtain ⟨b, off, c', hb, rfl, _, h2, h3, h4⟩ := hv
  have h4' : c' = 1 := h4
  subst h4'
  have ho := hS.obj q b hb
  have hbr := hnew q b hb (by rw [hat]; trivial)
  rw [hat] at ho
  obtain ⟨cs, el, h5, h6, h7, h8⟩ := ho
  have h7' : b.sh + 6 ≤ b.N := h7
  have h8' : VRs ρ' (h.rvs i) ((cs.toList.drop b.sh).take 6) := h8
  have hoff : off = b.sh := by rcases h3 with h3 | h3 <;> omega
  subst hoff
  refine ⟨_, 1, rfl, Nat.le_refl _, fun W' hW => ⟨rfl, by omega, fun _ => ⟨_, rfl, fun j x hj => ?_⟩⟩⟩
  have h5' : W'.heap[b.r]? = some (.cells cs el) := (hW b.r (.inr hbr) (Array.getElem?_eq_some_iff.1 h5).1).trans h5
  cases j with
  | succ j => simp at hj
  | zero =>
    cases hj
    refine ⟨_, ?_, hd_out hs hf hR h8' W' hW, fun i u hu => ?_⟩
    · show _ = 6
      rw [List.length_take, List.length_drop, Array.length_toList]; omega
    · rw [Addr.add_mid, Nat.zero_mul, Nat.zero_add]
      rw [List.getElem?_take] at hu
      split at hu
      · rw [List.getElem?_drop] at hu
        simp only [World.cell?, h5']
        simpa using hu
      · simp at hu
end Go.Ref
end
section
open Go Go.Ref Go.Proofs Go.RowKit Go.Proofs.Ytgbpdfkobelbcaa.PSimpFolds Go.Proofs.YtgbpdfkobelbcaaW.PrintWords
set_option maxRecDepth 100000
namespace Go.Ref
inductive T3 where
  | a | b | o
def T3.of (x y n : Int) : T3 := if n = x then .a else if n = y then .b else .o
def T3.pt (x y : Int) : T3 → Pt
  | .a => .c x
  | .b => .c y
  | .o => .s [x, y]
theorem T3.fit (x y n : Int) : ((T3.of x y n).pt x y).fit n := by
  unfold T3.of
  by_cases h : n = x
  · rw [if_pos h]; exact h
  · by_cases k : n = y
    · rw [if_neg h, if_pos k]; exact k
    · rw [if_neg h, if_neg k]; show n ∉ [x, y]; simp [h, k]
theorem no_int (n : Int) : n ∉ ([] : List Int) := by simp
def unPick : T3 → T3 → T3 → T3 → Bool → Nat
  | .a, .a, .a, .a, true => 2
  | .a, .b, .a, .b, true => 2
  | .b, _, .b, _, _ => 1
  | _, _, _, _, _ => 0
def twPick : T3 → T3 → T3 → T3 → Bool → Nat
  | .a, .a, .a, .a, true => 2
  | .a, .b, .a, .b, true => 2
  | _, _, _, _, _ => 0
def oneX (pick : T3 → T3 → T3 → T3 → Bool → Nat) (e : S24) : S24 × Bool :=
  match e.f5 with
  | [x] =>
    match x.f5 with
    | [y] =>
      match pick (T3.of 3 8 e.f0) (T3.of 1 2 e.f1) (T3.of 3 1 x.f0) (T3.of 1 2 x.f1) true with
      | 2 => (y, true)
      | 1 => (x, true)
      | _ => (e, false)
    | _ =>
      match pick (T3.of 3 8 e.f0) (T3.of 1 2 e.f1) (T3.of 3 1 x.f0) (T3.of 1 2 x.f1) false with
      | 1 => (x, true)
      | _ => (e, false)
  | _ => (e, false)
def hdE (k op : T3) (g : Ag) : Hd := ⟨k.pt 3 8, op.pt 1 2, .s [], .s [], g⟩
def hdX (k op : T3) (g : Ag) : Hd := ⟨k.pt 3 1, op.pt 1 2, .s [], .s [], g⟩
def hdY : Hd := ⟨.s [], .s [], .s [], .s [], .v⟩
noncomputable def unRun (f : Nat) (k op xk xop : T3) (one : Bool) : Option RV :=
  if one then outV (callF (table Try.prog) 3 (.fn f) [.agg ((hdE k op (.r 1 21)).rvs 0)] ⟨treeOf 21 [rowsRV 1 [hdX xk xop (.r 1 22)], rowsRV 2 [hdY]], path 23, path 23⟩)
  else outV (callF (table Try.prog) 3 (.fn f) [.agg ((hdE k op (.r 1 14)).rvs 0)] ⟨treeOf 14 [rowsRV 1 [hdX xk xop (.l [1])]], path 15, path 15⟩)
noncomputable def unRes (n : Nat) (k op xk xop : T3) (one : Bool) : RV :=
  match n with
  | 2 => .tuple [.agg (hdY.rvs 2), .bool true]
  | 1 => .tuple [.agg ((hdX xk xop (if one then .r 1 22 else .l [1])).rvs 1), .bool true]
  | _ => .tuple [.agg ((hdE k op (if one then .r 1 21 else .r 1 14)).rvs 0), .bool false]
structure UnOk (pick : T3 → T3 → T3 → T3 → Bool → Nat) (f : Nat) : Prop where
  ways : ∀ k op xk xop one, unRun f k op xk xop one = some (unRes (pick k op xk xop one) k op xk xop one)
  len : ∀ k op, outV (callF (table Try.prog) 3 (.fn f) [.agg ((hdE k op (.l [1])).rvs 0)] ⟨treeOf 7 [], path 7, path 7⟩) = some (.tuple [.agg ((hdE k op (.l [1])).rvs 0), .bool false])
theorem un24 : UnOk unPick 24 := by
  refine ⟨fun k op xk xop one => ?_, fun k op => ?_⟩
  · cases k <;> cases op <;> cases xk <;> cases xop <;> cases one <;> kernel_rfl
  · cases k <;> cases op <;> kernel_rfl
theorem un46 : UnOk twPick 46 := by
  refine ⟨fun k op xk xop one => ?_, fun k op => ?_⟩
  · cases k <;> cases op <;> cases xk <;> cases xop <;> cases one <;> kernel_rfl
  · cases k <;> cases op <;> kernel_rfl
theorem row_one {w : World} {ok : Nat → Prop} {A : Option Addr} {xs : List S24} {x : S24} (hx : xs = [x]) (hC : Kd.F k24 w ok A xs.length xs) : ∃ p : Pa, p.x = x ∧ p.Rd w ok ∧ ∃ b off c el fz, A = some ⟨b, off, none⟩ ∧ w.heap[b]? = some (.cells c el fz) ∧ off + p.v6.length ≤ c.size ∧ (c.toList.drop off).take p.v6.length = p.v6 := by
  subst hx
  obtain ⟨ps, e1, e2, b, off, c, el, fz, hA, hb, hl, ht⟩ := row_parts (by simp) hC
  obtain ⟨p, ps, rfl⟩ : ∃ p t, ps = p :: t := by cases ps with | nil => simp at e1 | cons p t => exact ⟨p, t, rfl⟩
  simp at e1
  obtain ⟨rfl, rfl⟩ := e1
  rw [List.flatMap_cons, List.flatMap_nil, List.append_nil] at hl ht
  exact ⟨p, rfl, e2 p (by simp), b, off, c, el, fz, hA, hb, hl, ht⟩
theorem row_slice {ρ : Rho} {a : Pos} {p : Pa} {w : World} {ok : Nat → Prop} {b off : Nat} {c : Array Value} (hR : p.Rd w ok) (h1 : p.x.f5.length = 1) (hA : p.A = some ⟨b, off, none⟩) (hblk : ρ a = some ⟨b, off, c.size, .nilFunc⟩) (hl : off ≤ c.size) : VR ρ (.slice a 0 1 1 (some 0)) p.sl := by
  simp only [VR]
  refine ⟨_, off, p.c, hblk, ?_, Nat.le_refl _, by rw [← h1]; exact hR.1, .inr rfl, by show off + p.c * 0 ≤ c.size; omega⟩
  show Value.slice p.A p.x.f5.length p.c = _
  rw [hA, h1]
theorem un_rule (hm : Try.prog.follows .mixedOrders = true) {pick : T3 → T3 → T3 → T3 → Bool → Nat} {f : Nat} (hu : UnOk pick f) (hp0 : ∀ k op xk xop, pick k op xk xop false ≠ 2) (hp2 : ∀ k op xk xop one, pick k op xk xop one ≤ 2) : Rule f (oneX pick) := by
  intro w ok e cs hK
  obtain ⟨A, c, hcs, hl, hC⟩ := k24_openF hK
  obtain rfl : cs = (Pa.v6 ⟨e, A, c⟩).toArray := Array.toList_inj.1 (by rw [hcs]; rfl)
  have hR : Pa.Rd w ok ⟨e, A, c⟩ := ⟨hl, hC⟩
  unfold oneX
  split
  · rename_i x h5
    obtain ⟨q, rfl, hq, b, off, cc, el, fz, hA, hb, hl1, ht1⟩ := row_one h5 hC
    have h51 : e.f5.length = 1 := by rw [h5]; rfl
    split
    · rename_i y h6
      obtain ⟨r, rfl, hr, b2, off2, cc2, el2, fz2, hA2, hb2, hl2, ht2⟩ := row_one h6 hq.2
      have h61 : q.x.f5.length = 1 := by rw [h6]; rfl
      have hways := hu.ways (T3.of 3 8 e.f0) (T3.of 1 2 e.f1) (T3.of 3 1 q.x.f0) (T3.of 1 2 q.x.f1) true
      unfold unRun at hways
      rw [if_pos rfl] at hways
      have hsee : ∀ i s, ([⟨e, A, c⟩, q, r] : List Pa)[i]? = some s → Sees7 (lay (([⟨e, A, c⟩, q, r] : List Pa).flatMap Pa.v7) [⟨b, off, cc.size, .nilFunc⟩, ⟨b2, off2, cc2.size, .nilFunc⟩]) i s := fun i s hs => sees7_lay hs
      have hk1 : lay (([⟨e, A, c⟩, q, r] : List Pa).flatMap Pa.v7) [⟨b, off, cc.size, .nilFunc⟩, ⟨b2, off2, cc2.size, .nilFunc⟩] (path 21) = some ⟨b, off, cc.size, .nilFunc⟩ := lay_blk (vals := ([⟨e, A, c⟩, q, r] : List Pa).flatMap Pa.v7) (i := 0) rfl
      have hk2 : lay (([⟨e, A, c⟩, q, r] : List Pa).flatMap Pa.v7) [⟨b, off, cc.size, .nilFunc⟩, ⟨b2, off2, cc2.size, .nilFunc⟩] (path 22) = some ⟨b2, off2, cc2.size, .nilFunc⟩ := lay_blk (vals := ([⟨e, A, c⟩, q, r] : List Pa).flatMap Pa.v7) (i := 1) rfl
      generalize hρ : lay (([⟨e, A, c⟩, q, r] : List Pa).flatMap Pa.v7) [⟨b, off, cc.size, .nilFunc⟩, ⟨b2, off2, cc2.size, .nilFunc⟩] = ρ at hsee hk1 hk2
      have f0 : (hdE (T3.of 3 8 e.f0) (T3.of 1 2 e.f1) (.r 1 21)).fit ρ ⟨e, A, c⟩ := ⟨T3.fit _ _ _, T3.fit _ _ _, no_int _, no_int _, Nat.zero_lt_one, row_slice hR h51 hA hk1 (by omega)⟩
      have f1 : (hdX (T3.of 3 1 q.x.f0) (T3.of 1 2 q.x.f1) (.r 1 22)).fit ρ q := ⟨T3.fit _ _ _, T3.fit _ _ _, no_int _, no_int _, Nat.zero_lt_one, row_slice hq h61 hA2 hk2 (by omega)⟩
      have f2 : hdY.fit ρ r := ⟨no_int _, no_int _, no_int _, no_int _, trivial⟩
      have hcalls := run_core hm (f := f) (K := 3) (N := 21) (M := 23) (vals := ([⟨e, A, c⟩, q, r] : List Pa).flatMap Pa.v7) (bs := [⟨b, off, cc.size, .nilFunc⟩, ⟨b2, off2, cc2.size, .nilFunc⟩]) (rss := [rowsRV 1 [hdX (T3.of 3 1 q.x.f0) (T3.of 1 2 q.x.f1) (.r 1 22)], rowsRV 2 [hdY]]) (w := w) (vs := #[.agg (Pa.v6 ⟨e, A, c⟩).toArray])
        rfl (by show 21 + 2 ≤ 23; omega) (fun i bk hbk => by
          rw [hρ]
          match i, hbk with
          | 0, hbk => cases hbk; exact ⟨_, rfl, objR_ro hb hl1 ht1 (by have := rows_in (ρ := ρ) (i := 1) (ps := [q]) (hs := [hdX (T3.of 3 1 q.x.f0) (T3.of 1 2 q.x.f1) (.r 1 22)]) ⟨hsee 1 q rfl, f1, trivial⟩; rwa [List.flatMap_cons, List.flatMap_nil, List.append_nil] at this)⟩
          | 1, hbk => cases hbk; exact ⟨_, rfl, objR_ro hb2 hl2 ht2 (by have := rows_in (ρ := ρ) (i := 2) (ps := [r]) (hs := [hdY]) ⟨hsee 2 r rfl, f2, trivial⟩; rwa [List.flatMap_cons, List.flatMap_nil, List.append_nil] at this)⟩)
        (by rw [hρ]; refine VRs.cons ?_ VRs.nil; simp only [VR]; exact ⟨_, rfl, hd_in (hsee 0 _ rfl) f0⟩) hways
      rw [hρ] at hcalls
      have hle := hp2 (T3.of 3 8 e.f0) (T3.of 1 2 e.f1) (T3.of 3 1 q.x.f0) (T3.of 1 2 q.x.f1) true
      generalize hn : pick (T3.of 3 8 e.f0) (T3.of 1 2 e.f1) (T3.of 3 1 q.x.f0) (T3.of 1 2 q.x.f1) true = n at hcalls hle
      refine hcalls.mono ?_
      rintro x w' ⟨ρ', m', v', rfl, _, hsub, hB, _, hv, _⟩
      match n, hle with
      | 0, _ => exact out_part (hsee 0 _ rfl) f0 hsub hR hB hv
      | 1, _ => exact out_part (hsee 1 _ rfl) f1 hsub hq hB hv
      | 2, _ => exact out_part (hsee 2 _ rfl) f2 hsub hr hB hv
    · rename_i hno
      have hways := hu.ways (T3.of 3 8 e.f0) (T3.of 1 2 e.f1) (T3.of 3 1 q.x.f0) (T3.of 1 2 q.x.f1) false
      unfold unRun at hways
      rw [if_neg (by simp)] at hways
      have h61 : (q.x.f5.length : Int) ∉ ([1] : List Int) := by
        simp only [List.mem_singleton]
        intro h
        match hq5 : q.x.f5, h with
        | [y], _ => exact hno y hq5
      have hps : [q].map Pa.x = e.f5 := by rw [h5]; rfl
      have hl1' : off + ([q].flatMap Pa.v6).length ≤ cc.size := by rw [List.flatMap_cons, List.flatMap_nil, List.append_nil]; exact hl1
      have ht1' : (cc.toList.drop off).take ([q].flatMap Pa.v6).length = [q].flatMap Pa.v6 := by rw [List.flatMap_cons, List.flatMap_nil, List.append_nil]; exact ht1
      have base := fun {j : Nat} {h : Hd} {s : Pa} {r : Bool} => rule1 (f := f) (K := 3) (N := 14) (j := j) (h0 := hdE (T3.of 3 8 e.f0) (T3.of 1 2 e.f1) (.r 1 14)) (h := h) (hs := [hdX (T3.of 3 1 q.x.f0) (T3.of 1 2 q.x.f1) (.l [1])]) (q := s) (r := r) (p := ⟨e, A, c⟩) (ps := [q]) hm hR (fun s hs => by rw [List.mem_singleton.1 hs]; exact hq) (by rw [h5]; simp) hps hA hb hl1' ht1' rfl rfl ⟨T3.fit _ _ _, T3.fit _ _ _, no_int _, no_int _⟩
        (fun ρ hs => ⟨hs 1 q rfl, ⟨T3.fit _ _ _, T3.fit _ _ _, no_int _, no_int _, h61⟩, trivial⟩)
      have hle := hp2 (T3.of 3 8 e.f0) (T3.of 1 2 e.f1) (T3.of 3 1 q.x.f0) (T3.of 1 2 q.x.f1) false
      have hne2 := hp0 (T3.of 3 8 e.f0) (T3.of 1 2 e.f1) (T3.of 3 1 q.x.f0) (T3.of 1 2 q.x.f1)
      generalize pick (T3.of 3 8 e.f0) (T3.of 1 2 e.f1) (T3.of 3 1 q.x.f0) (T3.of 1 2 q.x.f1) false = n at *
      match n, hle, hne2 with
      | 0, _, _ => exact base (j := 0) rfl rfl hways
      | 1, _, _ => exact base (j := 1) rfl rfl hways
      | 2, _, h => exact absurd rfl h
  · rename_i hno
    refine rule0 (h := hdE (T3.of 3 8 e.f0) (T3.of 1 2 e.f1) (.l [1])) hm hR ⟨T3.fit _ _ _, T3.fit _ _ _, no_int _, no_int _, ?_⟩ (hu.len _ _)
    show (e.f5.length : Int) ∉ ([1] : List Int)
    simp only [List.mem_singleton]
    intro h
    match h5 : e.f5, h with
    | [y], _ => exact hno y h5
theorem unary_rule (hm : Try.prog.follows .mixedOrders = true) : Rule 24 (oneX unPick) := un_rule hm un24 (fun k op xk xop => by cases k <;> cases op <;> cases xk <;> cases xop <;> decide) (fun k op xk xop one => by cases k <;> cases op <;> cases xk <;> cases xop <;> cases one <;> decide)
theorem twice_rule (hm : Try.prog.follows .mixedOrders = true) : Rule 46 (oneX twPick) := un_rule hm un46 (fun k op xk xop => by cases k <;> cases op <;> cases xk <;> cases xop <;> decide) (fun k op xk xop one => by cases k <;> cases op <;> cases xk <;> cases xop <;> cases one <;> decide)
end Go.Ref
end
section
open Go Go.Ref Go.Proofs Go.RowKit Go.Proofs.Ytgbpdfkobelbcaa.PSimpFolds Go.Proofs.YtgbpdfkobelbcaaW.PrintWords
set_option maxRecDepth 100000
namespace Go.Ref
inductive O10 where
  | o3 | o4 | o5 | o6 | o8 | o7 | o9 | o11 | o12 | none
def O10.of (n : Int) : O10 := if n = 3 then .o3 else if n = 4 then .o4 else if n = 5 then .o5 else if n = 6 then .o6 else if n = 8 then .o8 else if n = 7 then .o7 else if n = 9 then .o9 else if n = 11 then .o11 else if n = 12 then .o12 else .none
def O10.pt : O10 → Pt
  | .o3 => .c 3
  | .o4 => .c 4
  | .o5 => .c 5
  | .o6 => .c 6
  | .o8 => .c 8
  | .o7 => .c 7
  | .o9 => .c 9
  | .o11 => .c 11
  | .o12 => .c 12
  | .none => .s [3, 4, 5, 6, 8, 7, 9, 11, 12]
theorem O10.fit (n : Int) : (O10.of n).pt.fit n := by
  unfold O10.of
  repeat' split
  all_goals first | assumption | skip
  show n ∉ [3, 4, 5, 6, 8, 7, 9, 11, 12]
  simp only [List.mem_cons, List.not_mem_nil, or_false, not_or]
  refine ⟨?_, ?_, ?_, ?_, ?_, ?_, ?_, ?_, ?_⟩ <;> assumption
def O10.t : O10 → Int
  | .o6 | .o8 | .o7 | .o9 => 2
  | _ => 1
def O10.v : O10 → Int
  | .o3 | .o8 | .o9 | .o11 => 1
  | _ => 0
def O10.left : O10 → Bool
  | .o7 | .o9 | .none => false
  | _ => true
inductive C4 where
  | k | t | v | m
def C4.of (t v : Int) (x : S24) : C4 := if x.f0 = 1 then if x.f2 = t then if x.f3 = v then .m else .v else .t else .k
def C4.hd (t v : Int) : C4 → Hd
  | .k => ⟨.s [1], .s [], .s [], .s [], .v⟩
  | .t => ⟨.c 1, .s [], .s [t], .s [], .v⟩
  | .v => ⟨.c 1, .s [], .c t, .s [v], .v⟩
  | .m => ⟨.c 1, .s [], .c t, .c v, .v⟩
theorem C4.fit (t v : Int) (ρ : Rho) (p : Pa) : ((C4.of t v p.x).hd t v).fit ρ p := by
  unfold C4.of
  by_cases e0 : p.x.f0 = 1
  · by_cases e2 : p.x.f2 = t
    · by_cases e3 : p.x.f3 = v
      · rw [if_pos e0, if_pos e2, if_pos e3]; exact ⟨e0, no_int _, e2, e3, trivial⟩
      · rw [if_pos e0, if_pos e2, if_neg e3]; exact ⟨e0, no_int _, e2, by show p.x.f3 ∉ [v]; simp [e3], trivial⟩
    · rw [if_pos e0, if_neg e2]; exact ⟨e0, no_int _, by show p.x.f2 ∉ [t]; simp [e2], no_int _, trivial⟩
  · rw [if_neg e0]; exact ⟨by show p.x.f0 ∉ [1]; simp [e0], no_int _, no_int _, no_int _, trivial⟩
def biPick (o : O10) (cx cy : C4) : Nat :=
  match o, cx, cy with
  | .none, _, _ => 0
  | _, _, .m => 1
  | o, .m, _ => if o.left then 2 else 0
  | _, _, _ => 0
def biX (e : S24) : S24 × Bool :=
  if e.f0 = 3 then
    match e.f5 with
    | [x, y] =>
      match biPick (O10.of e.f1) (C4.of (O10.of e.f1).t (O10.of e.f1).v x) (C4.of (O10.of e.f1).t (O10.of e.f1).v y) with
      | 1 => (x, true)
      | 2 => (y, true)
      | _ => (e, false)
    | _ => (e, false)
  else (e, false)
def neutC : List (Int × Int × Int × Bool) := [(3, 1, 1, true), (4, 1, 0, true), (5, 1, 0, true), (6, 2, 0, true), (8, 2, 1, true), (7, 2, 0, false), (9, 2, 1, false), (11, 1, 1, true), (12, 1, 0, true)]
def neutR : List RV := neutC.flatMap fun x => [.int .i64 x.1, .int .i64 x.2.1, .int .i64 x.2.2.1, .bool x.2.2.2]
def neutV : List Value := neutC.flatMap fun x => [.int .i64 x.1, .int .i64 x.2.1, .int .i64 x.2.2.1, .bool x.2.2.2]
def biK : Hd := ⟨.s [3], .s [], .s [], .s [], .v⟩
def biL : Hd := ⟨.c 3, .s [], .s [], .s [], .l [2]⟩
def biE (o : O10) : Hd := ⟨.c 3, o.pt, .s [], .s [], .r 2 21⟩
noncomputable def biRes (o : O10) (cx cy : C4) : RV :=
  match biPick o cx cy with
  | 1 => .tuple [.agg ((cx.hd o.t o.v).rvs 1), .bool true]
  | 2 => .tuple [.agg ((cy.hd o.t o.v).rvs 2), .bool true]
  | _ => .tuple [.agg ((biE o).rvs 0), .bool false]
noncomputable def exA : Bool → Nat → List RV
  | true, N => [.slice (path N) 0 9 9 (some 0)]
  | false, _ => []
def exR : Bool → List (List RV)
  | true => [neutR]
  | false => []
structure BiOk (f : Nat) (ex : Bool) : Prop where
  ways : ∀ o cx cy, outV (callF (table Try.prog) 20 (.fn f) (.agg ((biE o).rvs 0) :: exA ex 22) ⟨treeOf 21 (rowsRV 1 [cx.hd o.t o.v, cy.hd o.t o.v] :: exR ex), path 23, path 23⟩) = some (biRes o cx cy)
  kind : outV (callF (table Try.prog) 20 (.fn f) (.agg (biK.rvs 0) :: exA ex 7) ⟨treeOf 7 (exR ex), path 8, path 8⟩) = some (.tuple [.agg (biK.rvs 0), .bool false])
  len : outV (callF (table Try.prog) 20 (.fn f) (.agg (biL.rvs 0) :: exA ex 7) ⟨treeOf 7 (exR ex), path 8, path 8⟩) = some (.tuple [.agg (biL.rvs 0), .bool false])
theorem bi25 : BiOk 25 false := by
  refine ⟨fun o cx cy => ?_, ?_, ?_⟩
  · cases o <;> cases cx <;> cases cy <;> kernel_rfl
  · kernel_rfl
  · kernel_rfl
theorem bi47 : BiOk 47 true := by
  refine ⟨fun o cx cy => ?_, ?_, ?_⟩
  · cases o <;> cases cx <;> cases cy <;> kernel_rfl
  · kernel_rfl
  · kernel_rfl
end Go.Ref
end
section
open Go Go.Ref Go.Proofs Go.RowKit Go.Proofs.Ytgbpdfkobelbcaa.PSimpFolds Go.Proofs.YtgbpdfkobelbcaaW.PrintWords
namespace Go.Ref
def ExOk (ex : Bool) (w : World) (xv : List Value) : Prop :=
  match ex with
  | true => ∃ b off c el fz cap, xv = [.slice (some ⟨b, off, none⟩) 9 cap] ∧ 9 ≤ cap ∧ w.heap[b]? = some (.cells c el fz) ∧ off + neutV.length ≤ c.size ∧ (c.toList.drop off).take neutV.length = neutV
  | false => xv = []
theorem neut_VR (ρ : Rho) : VRs ρ neutR neutV := by
  simp only [neutR, neutV, neutC, List.flatMap_cons, List.flatMap_nil, List.cons_append, List.nil_append, VRs.cons_iff]
  simp only [VR, VRs, and_self]
theorem ex_blocks {ex : Bool} {w : World} {xv : List Value} (h : ExOk ex w xv) : ∃ xb : List Blk, xb.length = (exR ex).length ∧ ∀ ρ : Rho, (∀ (i : Nat) (b : Blk), xb[i]? = some b → ∃ rs : List RV, (exR ex)[i]? = some rs ∧ ObjR ρ (.ro rs) b w) ∧ ∀ N : Nat, (∀ (i : Nat) (b : Blk), xb[i]? = some b → ρ (path (N + i)) = some b) → VRs ρ (exA ex N) xv := by
  cases ex with
  | false => cases h; exact ⟨[], rfl, fun ρ => ⟨fun i b h => by simp at h, fun N _ => VRs.nil⟩⟩
  | true =>
    obtain ⟨b, off, c, el, fz, cap, rfl, hcap, hb, hl, ht⟩ := h
    refine ⟨[⟨b, off, c.size, .nilFunc⟩], rfl, fun ρ => ⟨fun i b' h => ?_, fun N hN => ?_⟩⟩
    · cases i with
      | zero => cases h; exact ⟨_, rfl, objR_ro hb hl ht (neut_VR ρ)⟩
      | succ i => simp at h
    · have h0 := hN 0 _ rfl
      rw [Nat.add_zero] at h0
      refine VRs.cons ?_ VRs.nil
      simp only [VR]
      exact ⟨_, off, cap, h0, rfl, Nat.le_refl _, hcap, .inr rfl, by show off + cap * 0 ≤ c.size; omega⟩
theorem exR_le (ex : Bool) : (exR ex).length ≤ 1 := by cases ex <;> decide
def RuleX (f : FuncId) (ex : Bool) (spec : S24 → S24 × Bool) : Prop := ∀ (w : World) (ok : Nat → Prop) (e : S24) (cs : Array Value) (xv : List Value), Kd.FK k24 w ok e cs.toList → ExOk ex w xv → Calls Try.prog f (.agg cs :: xv).toArray w (Gives1 w ok (spec e))
theorem bi_rule0 (hm : Try.prog.follows .mixedOrders = true) {f : FuncId} {ex : Bool} {K : Nat} {h : Hd} {p : Pa} {w : World} {ok : Nat → Prop} {xv : List Value} {b : Bool} (hR : p.Rd w ok) (hx : ExOk ex w xv) (hf : ∀ ρ, h.fit ρ p)
    (hrun : outV (callF (table Try.prog) K (.fn f) (.agg (h.rvs 0) :: exA ex 7) ⟨treeOf 7 (exR ex), path 8, path 8⟩) = some (.tuple [.agg (h.rvs 0), .bool b])) :
    Calls Try.prog f (.agg p.v6.toArray :: xv).toArray w (Gives1 w ok (p.x, b)) := by
  obtain ⟨xb, hxl, hxo⟩ := ex_blocks hx
  have hle := exR_le ex
  have hs : Sees7 (lay p.v7 xb) 0 p := by
    have := sees7_lay (ps := [p]) (bs := xb) (i := 0) (p := p) rfl
    rwa [List.flatMap_cons, List.flatMap_nil, List.append_nil] at this
  refine (run_core hm (vals := p.v7) (bs := xb) (rss := exR ex) (M := 8) rfl (by show 7 + xb.length ≤ 8; omega) (hxo _).1 ?_ hrun).mono ?_
  · refine VRs.cons ?_ ((hxo _).2 7 fun i b' hb' => ?_)
    · simp only [VR]; exact ⟨_, rfl, hd_in hs (hf _)⟩
    · exact lay_blk (vals := p.v7) hb'
  · rintro e w' ⟨ρ', m', v', rfl, _, hsub, hB, _, hv, _⟩
    exact out_part hs (hf _) hsub hR hB hv
theorem bi_rule (hm : Try.prog.follows .mixedOrders = true) {f : Nat} {ex : Bool} (hb : BiOk f ex) : RuleX f ex biX := by
  intro w ok e cs xv hK hx
  obtain ⟨A, c, hcs, hl, hC⟩ := k24_openF hK
  obtain rfl : cs = (Pa.v6 ⟨e, A, c⟩).toArray := Array.toList_inj.1 (by rw [hcs]; rfl)
  have hR : Pa.Rd w ok ⟨e, A, c⟩ := ⟨hl, hC⟩
  unfold biX
  by_cases h0 : e.f0 = 3
  · rw [if_pos h0]
    split
    · rename_i x y h5
      obtain ⟨ps, e1, e2, b, off, cc, el, fz, hA, hbk, hl', ht⟩ := row_parts (by rw [h5]; simp) hC
      rw [h5] at e1
      obtain ⟨p1, ps, rfl⟩ : ∃ p t, ps = p :: t := by cases ps with | nil => simp at e1 | cons p t => exact ⟨p, t, rfl⟩
      obtain ⟨p2, ps, rfl⟩ : ∃ p t, ps = p :: t := by cases ps with | nil => simp at e1 | cons p t => exact ⟨p, t, rfl⟩
      have hnil : ps = [] := by have := e1; simp at this; exact this.2.2
      subst hnil
      simp only [List.map_cons, List.map_nil, List.cons.injEq, and_true] at e1
      obtain ⟨rfl, rfl⟩ := e1
      obtain ⟨xb, hxl, hxo⟩ := ex_blocks hx
      have hle := exR_le ex
      generalize ho : O10.of e.f1 = o
      have hrun := hb.ways o (C4.of o.t o.v p1.x) (C4.of o.t o.v p2.x)
      have h52 : e.f5.length = 2 := by rw [h5]; rfl
      have hsee : ∀ i s, ([⟨e, A, c⟩, p1, p2] : List Pa)[i]? = some s → Sees7 (lay (([⟨e, A, c⟩, p1, p2] : List Pa).flatMap Pa.v7) (⟨b, off, cc.size, .nilFunc⟩ :: xb)) i s := fun i s hs => sees7_lay hs
      have hk : ∀ i bb, (⟨b, off, cc.size, .nilFunc⟩ :: xb : List Blk)[i]? = some bb → lay (([⟨e, A, c⟩, p1, p2] : List Pa).flatMap Pa.v7) (⟨b, off, cc.size, .nilFunc⟩ :: xb) (path (21 + i)) = some bb := fun i bb hi => lay_blk (vals := ([⟨e, A, c⟩, p1, p2] : List Pa).flatMap Pa.v7) hi
      generalize hρ : lay (([⟨e, A, c⟩, p1, p2] : List Pa).flatMap Pa.v7) (⟨b, off, cc.size, .nilFunc⟩ :: xb) = ρ at hsee hk
      have hk0 := hk 0 _ rfl
      have f0 : (biE o).fit ρ ⟨e, A, c⟩ := by
        refine ⟨h0, by rw [← ho]; exact O10.fit _, no_int _, no_int _, by decide, ?_⟩
        simp only [VR]
        refine ⟨_, off, c, hk0, ?_, Nat.le_refl _, by have := hR.1; show 2 ≤ c; simp only [] at this; omega, .inr rfl, by show off + c * 0 ≤ cc.size; omega⟩
        show Value.slice A e.f5.length c = _
        have hA' : A = some ⟨b, off, none⟩ := hA
        rw [hA', h52]
      have f1 := C4.fit o.t o.v ρ p1
      have f2 := C4.fit o.t o.v ρ p2
      have hcalls := run_core hm (f := f) (K := 20) (N := 21) (M := 23) (vals := ([⟨e, A, c⟩, p1, p2] : List Pa).flatMap Pa.v7) (bs := ⟨b, off, cc.size, .nilFunc⟩ :: xb) (rss := rowsRV 1 [(C4.of o.t o.v p1.x).hd o.t o.v, (C4.of o.t o.v p2.x).hd o.t o.v] :: exR ex) (w := w) (vs := (.agg (Pa.v6 ⟨e, A, c⟩).toArray :: xv).toArray)
        rfl (by rw [List.length_cons]; omega) (fun i bk hbk' => by
          rw [hρ]
          match i, hbk' with
          | 0, hbk' => cases hbk'; exact ⟨_, rfl, objR_ro hbk hl' ht (rows_in (ρ := ρ) (i := 1) (ps := [p1, p2]) ⟨hsee 1 p1 rfl, f1, hsee 2 p2 rfl, f2, trivial⟩)⟩
          | i + 1, hbk' => exact (hxo ρ).1 i bk hbk')
        (by
          rw [hρ]
          refine VRs.cons ?_ ((hxo ρ).2 22 fun i bb hi => ?_)
          · simp only [VR]; exact ⟨_, rfl, hd_in (hsee 0 _ rfl) f0⟩
          · have := hk (i + 1) bb hi
            rwa [show 21 + (i + 1) = 22 + i by omega] at this) hrun
      rw [hρ] at hcalls
      refine hcalls.mono ?_
      rintro x w' ⟨ρ', m', v', rfl, _, hsub, hB, _, hv, _⟩
      unfold biRes at hv
      split
      · rename_i hp; simp only [hp] at hv; exact out_part (hsee 1 _ rfl) f1 hsub (e2 p1 (by simp)) hB hv
      · rename_i hp; simp only [hp] at hv; exact out_part (hsee 2 _ rfl) f2 hsub (e2 p2 (by simp)) hB hv
      · rename_i h1 h2
        split at hv
        · rename_i hp; exact absurd hp h1
        · rename_i hp; exact absurd hp h2
        · exact out_part (hsee 0 _ rfl) f0 hsub hR hB hv
    · rename_i hno
      refine bi_rule0 (h := biL) hm hR hx (fun ρ => ⟨h0, no_int _, no_int _, no_int _, ?_⟩) hb.len
      show (e.f5.length : Int) ∉ ([2] : List Int)
      simp only [List.mem_singleton]
      intro h
      match h5 : e.f5, h with
      | [x, y], _ => exact hno x y h5
  · rw [if_neg h0]
    exact bi_rule0 (h := biK) hm hR hx (fun ρ => ⟨by show e.f0 ∉ [3]; simp [h0], no_int _, no_int _, no_int _, trivial⟩) hb.kind
end Go.Ref
end
section
open Go Go.Ref Go.Proofs Go.RowKit Go.Proofs.Ytgbpdfkobelbcaa.PSimpFolds Go.Proofs.YtgbpdfkobelbcaaW.PrintWords
set_option maxRecDepth 100000
namespace Go.Ref
def clHd : Cls → Hd
  | .k => ⟨.s [1], .s [], .s [], .s [], .v⟩
  | .t => ⟨.c 1, .s [], .s [1], .s [], .v⟩
  | .one => ⟨.c 1, .s [], .c 1, .c 1, .v⟩
  | .zero => ⟨.c 1, .s [], .c 1, .c 0, .v⟩
  | .v => ⟨.c 1, .s [], .c 1, .s [1, 0], .v⟩
def clX (x : S24) : Cls := clsOf x.f0 x.f2 x.f3
theorem clHd_fit (ρ : Rho) (p : Pa) : (clHd (clX p.x)).fit ρ p := by
  have hno : ∀ n : Int, n ∉ ([] : List Int) := by simp
  unfold clX clsOf
  by_cases e0 : p.x.f0 = 1
  · by_cases e2 : p.x.f2 = 1
    · by_cases e3 : p.x.f3 = 1
      · rw [if_pos e0, if_pos e2, if_pos e3]; exact ⟨e0, hno _, e2, e3, trivial⟩
      · by_cases e4 : p.x.f3 = 0
        · rw [if_pos e0, if_pos e2, if_neg e3, if_pos e4]; exact ⟨e0, hno _, e2, e4, trivial⟩
        · rw [if_pos e0, if_pos e2, if_neg e3, if_neg e4]; exact ⟨e0, hno _, e2, by show p.x.f3 ∉ [1, 0]; simp [e3, e4], trivial⟩
    · rw [if_pos e0, if_neg e2]; exact ⟨e0, hno _, by show p.x.f2 ∉ [1]; simp [e2], hno _, trivial⟩
  · rw [if_neg e0]; exact ⟨by show p.x.f0 ∉ [1]; simp [e0], hno _, hno _, hno _, trivial⟩
def notX (c : S24) : S24 := ⟨3, 1, 0, 0, ⟨#[]⟩, [c]⟩
def chPick : Cls → Cls → Cls → Nat
  | .one, _, _ => 2
  | .zero, _, _ => 3
  | _, .one, .zero => 1
  | _, .zero, .one => 4
  | _, _, _ => 0
def choiceX (e : S24) : S24 × Bool :=
  if e.f0 = 4 then
    match e.f5 with
    | [c, a, b] =>
      match chPick (clX c) (clX a) (clX b) with
      | 1 => (c, true)
      | 2 => (a, true)
      | 3 => (b, true)
      | 4 => (notX c, true)
      | _ => (e, false)
    | _ => (e, false)
  else (e, false)
def chE : Hd := ⟨.c 4, .s [], .s [], .s [], .r 3 28⟩
noncomputable def chRun (f : Nat) (c a b : Cls) : CR := callF (table Try.prog) 3 (.fn f) [.agg (chE.rvs 0)] ⟨treeOf 28 [rowsRV 1 [clHd c, clHd a, clHd b]], path 29, path 29⟩
noncomputable def chRes (q : Pos) (c a b : Cls) : RV :=
  match chPick c a b with
  | 1 => .tuple [.agg ((clHd c).rvs 1), .bool true]
  | 2 => .tuple [.agg ((clHd a).rvs 2), .bool true]
  | 3 => .tuple [.agg ((clHd b).rvs 3), .bool true]
  | 4 => .tuple [.agg [.int .i64 3, .int .i64 1, .int .i64 0, .int .i64 0, .str [], .slice q 0 1 1 none], .bool true]
  | _ => .tuple [.agg (chE.rvs 0), .bool false]
noncomputable def newRow : CR → Pos := fun r => match r with | .ok (.tuple [.agg [_, _, _, _, _, .slice q _ _ _ _], _]) _ => q | _ => .h
noncomputable def outM (a : Pos) (r : CR) : RO := match r with | .ok _ m => m.at a | _ => .dead
structure ChOk (f : Nat) : Prop where
  ways : ∀ c a b, outV (chRun f c a b) = some (chRes (newRow (chRun f c a b)) c a b)
  new : ∀ c a b, chPick c a b = 4 → outM (newRow (chRun f c a b)) (chRun f c a b) = .cells ((clHd c).rvs 1)
  kind : outV (callF (table Try.prog) 3 (.fn f) [.agg ((⟨.s [4], .s [], .s [], .s [], .v⟩ : Hd).rvs 0)] ⟨treeOf 7 [], path 7, path 7⟩) = some (.tuple [.agg ((⟨.s [4], .s [], .s [], .s [], .v⟩ : Hd).rvs 0), .bool false])
  len : outV (callF (table Try.prog) 3 (.fn f) [.agg ((⟨.c 4, .s [], .s [], .s [], .l [3]⟩ : Hd).rvs 0)] ⟨treeOf 7 [], path 7, path 7⟩) = some (.tuple [.agg ((⟨.c 4, .s [], .s [], .s [], .l [3]⟩ : Hd).rvs 0), .bool false])
theorem ch45 : ChOk 45 := by
  refine ⟨fun c a b => ?_, fun c a b h => ?_, ?_, ?_⟩
  · cases c <;> cases a <;> cases b <;> kernel_rfl
  · cases c <;> cases a <;> cases b <;> first | (exact absurd h (by decide)) | kernel_rfl
  · kernel_rfl
  · kernel_rfl
theorem ch23 : ChOk 23 := by
  refine ⟨fun c a b => ?_, fun c a b h => ?_, ?_, ?_⟩
  · cases c <;> cases a <;> cases b <;> kernel_rfl
  · cases c <;> cases a <;> cases b <;> first | (exact absurd h (by decide)) | kernel_rfl
  · kernel_rfl
  · kernel_rfl
theorem choice_rule (hm : Try.prog.follows .mixedOrders = true) {f : Nat} (hc : ChOk f) : Rule f choiceX := by
  intro w ok e cs hK
  obtain ⟨A, c, hcs, hl, hC⟩ := k24_openF hK
  obtain rfl : cs = (Pa.v6 ⟨e, A, c⟩).toArray := Array.toList_inj.1 (by rw [hcs]; rfl)
  have hR : Pa.Rd w ok ⟨e, A, c⟩ := ⟨hl, hC⟩
  have hno : ∀ n : Int, n ∉ ([] : List Int) := by simp
  unfold choiceX
  by_cases h0 : e.f0 = 4
  · rw [if_pos h0]
    have hother : e.f5.length ≠ 3 → Calls Try.prog f #[.agg (Pa.v6 ⟨e, A, c⟩).toArray] w (Gives1 w ok (e, false)) := fun h3 =>
      rule0 (h := ⟨.c 4, .s [], .s [], .s [], .l [3]⟩) hm hR ⟨h0, hno _, hno _, hno _, by show (e.f5.length : Int) ∉ [3]; simp; omega⟩ hc.len
    split
    · rename_i x y z h5
      obtain ⟨ps, e1, e2, b, off, cc, el, fz, hA, hb, hl', ht⟩ := row_parts (by rw [h5]; simp) hC
      rw [h5] at e1
      obtain ⟨p1, ps, rfl⟩ : ∃ p t, ps = p :: t := by cases ps with | nil => simp at e1 | cons p t => exact ⟨p, t, rfl⟩
      obtain ⟨p2, ps, rfl⟩ : ∃ p t, ps = p :: t := by cases ps with | nil => simp at e1 | cons p t => exact ⟨p, t, rfl⟩
      obtain ⟨p3, ps, rfl⟩ : ∃ p t, ps = p :: t := by cases ps with | nil => simp at e1 | cons p t => exact ⟨p, t, rfl⟩
      have hnil : ps = [] := by have := e1; simp at this; exact this.2.2.2
      subst hnil
      simp only [List.map_cons, List.map_nil, List.cons.injEq, and_true] at e1
      obtain ⟨rfl, rfl, rfl⟩ := e1
      have hrun := hc.ways (clX p1.x) (clX p2.x) (clX p3.x)
      have hfs : ∀ ρ, (∀ i q, ((⟨e, A, c⟩ : Pa) :: [p1, p2, p3])[i]? = some q → Sees7 ρ i q) → FitAll ρ 1 [clHd (clX p1.x), clHd (clX p2.x), clHd (clX p3.x)] [p1, p2, p3] := fun ρ hs =>
        ⟨hs 1 _ rfl, clHd_fit _ _, hs 2 _ rfl, clHd_fit _ _, hs 3 _ rfl, clHd_fit _ _, trivial⟩
      have hps : [p1, p2, p3].map Pa.x = e.f5 := by rw [h5]; rfl
      have hne : e.f5 ≠ [] := by rw [h5]; simp
      have base := fun {j : Nat} {h : Hd} {q : Pa} {r : Bool} => rule1 (f := f) (K := 3) (N := 28) (j := j) (h0 := chE) (h := h) (q := q) (r := r) hm hR e2 hne hps hA hb hl' ht rfl rfl ⟨h0, hno _, hno _, hno _⟩ hfs
      unfold chRes at hrun
      split
      · rename_i hp
        simp only [hp] at hrun
        exact base (j := 1) rfl rfl hrun
      · rename_i hp
        simp only [hp] at hrun
        exact base (j := 2) rfl rfl hrun
      · rename_i hp
        simp only [hp] at hrun
        exact base (j := 3) rfl rfl hrun
      · rename_i hp
        simp only [hp] at hrun
        obtain ⟨ρ, _, hfa, hcalls⟩ := run1 (f := f) (K := 3) (N := 28) (h0 := chE) hm hR hne hps hA hb hl' ht rfl rfl ⟨h0, hno _, hno _, hno _⟩ hfs hrun
        refine hcalls.mono ?_
        rintro x w' ⟨ρ', m', v', rfl, hr, hsub, hB, hS, hv, hnw⟩
        have hnew := hc.new _ _ _ hp
        have hr' : chRun f (clX p1.x) (clX p2.x) (clX p3.x) = .ok (.tuple [.agg [.int .i64 3, .int .i64 1, .int .i64 0, .int .i64 0, .str [], .slice (newRow (chRun f (clX p1.x) (clX p2.x) (clX p3.x))) 0 1 1 none], .bool true]) m' := hr
        have hat : m'.at (newRow (chRun f (clX p1.x) (clX p2.x) (clX p3.x))) = .cells ((clHd (clX p1.x)).rvs 1) := by
          generalize hq : newRow (chRun f (clX p1.x) (clX p2.x) (clX p3.x)) = q at hnew hr' ⊢
          rw [hr'] at hnew
          exact hnew
        obtain ⟨vs, rfl, h1⟩ := tuple_back hv
        simp only [VRs] at h1
        obtain ⟨v0, _, e0, a0, v1, _, rfl, a1, v2, _, rfl, a2, v3, _, rfl, a3, v4, _, rfl, a4, v5, _, rfl, a5, rfl⟩ := h1
        have hp1 := hfa.2.2.1
        obtain ⟨A5, c5, rfl, hl5, hC5⟩ := new_row hS hnw hat (hp1.mono hsub) ((clHd_fit ρ p1).mono hsub) ((e2 p1 (by simp)).below hB) a5
        refine ⟨vs, rfl, ?_, hB⟩
        rw [e0, int_back a0, int_back a1, int_back a2, int_back a3]
        have e4 : v4 = .string ⟨#[]⟩ := by
          simp only [VR] at a4
          obtain ⟨⟨⟨l⟩⟩, rfl, hx⟩ := a4
          cases l with
          | nil => rfl
          | cons a t => simp at hx
        rw [e4]
        exact k24_mkF w' _ (notX p1.x) (A5 := A5) (c5 := c5) hl5 hC5
      · rename_i h1 h2 h3 h4
        have hp : chPick (clX p1.x) (clX p2.x) (clX p3.x) = 0 := by
          generalize clX p1.x = u1 at *
          generalize clX p2.x = u2 at *
          generalize clX p3.x = u3 at *
          cases u1 <;> cases u2 <;> cases u3 <;> first | rfl | exact absurd rfl h1 | exact absurd rfl h2 | exact absurd rfl h3 | exact absurd rfl h4
        simp only [hp] at hrun
        exact base (j := 0) rfl rfl hrun
    · rename_i hno3
      refine hother (fun h3 => ?_)
      match e, h3, hno3 with
      | ⟨_, _, _, _, _, [x, y, z]⟩, _, hno3 => exact hno3 x y z rfl
  · rw [if_neg h0]
    exact rule0 (h := ⟨.s [4], .s [], .s [], .s [], .v⟩) hm hR ⟨by show e.f0 ∉ [4]; simp [h0], hno _, hno _, hno _, trivial⟩ hc.kind
end Go.Ref
end
