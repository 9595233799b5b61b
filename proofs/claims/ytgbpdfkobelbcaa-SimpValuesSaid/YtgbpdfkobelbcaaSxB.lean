/- A part of the proofs of two laws of folding: words, a reference machine, contracts. -/
import Derived.Test.YtgbpdfkobelbcaaSxA
import Derived.Orders
import Derived.KernelRfl
import Derived.Calls
import Derived.Laws.Sem
import Derived.Deep.MidRow
import Derived.Deep.AppendSrc
import Derived.Laws.Entries
import Derived.Laws.CopyRow
import Derived.Deep.Upon
import Derived.IntWalk
import Derived.Laws.Strings
import Derived.Laws.Tables
import Derived.Great.BuildSlice
import Derived.Laws.MakeOwn
import Derived.MapKept
import Derived.Maps.RangeRun
section
namespace Go.Ref
open Go
inductive Pos where
  | h
  | o (p : Pos)
  | i (p : Pos)
noncomputable def Pos.succ (p : Pos) : Pos := Pos.rec (.o .h) (fun p _ => .i p) (fun _ ih => .o ih) p
noncomputable def Pos.num (p : Pos) : Nat := Pos.rec 1 (fun _ ih => 2 * ih) (fun _ ih => 2 * ih + 1) p
inductive Cmp where
  | lt
  | eq
  | gt
noncomputable def Pos.cmpC (p : Pos) : Cmp → Pos → Cmp :=
  Pos.rec (motive := fun _ => Cmp → Pos → Cmp)
    (fun c q => Pos.rec (motive := fun _ => Cmp) c (fun _ _ => .lt) (fun _ _ => .lt) q)
    (fun _ ih c q => Pos.rec (motive := fun _ => Cmp) .gt (fun q _ => ih c q) (fun q _ => ih .lt q) q)
    (fun _ ih c q => Pos.rec (motive := fun _ => Cmp) .gt (fun q _ => ih .gt q) (fun q _ => ih c q) q) p
noncomputable def Pos.lt (p q : Pos) : Bool := Cmp.rec (motive := fun _ => Bool) true false false (Pos.cmpC p .eq q)
noncomputable def Pos.beq (p q : Pos) : Bool := Cmp.rec (motive := fun _ => Bool) false true false (Pos.cmpC p .eq q)
noncomputable def Pos.min (p q : Pos) : Pos := Bool.rec (motive := fun _ => Pos) q p (Pos.lt p q)
inductive Tr (α : Type) where
  | e
  | n (l : Tr α) (x : α) (r : Tr α)
noncomputable def Tr.get {α : Type} (d : α) (p : Pos) : Tr α → α :=
  Pos.rec (motive := fun _ => Tr α → α)
    (fun t => Tr.rec (motive := fun _ => α) d (fun _ x _ _ _ => x) t)
    (fun _ ih t => Tr.rec (motive := fun _ => α) d (fun l _ _ _ _ => ih l) t)
    (fun _ ih t => Tr.rec (motive := fun _ => α) d (fun _ _ r _ _ => ih r) t) p
noncomputable def Tr.set {α : Type} (d : α) (p : Pos) (v : α) : Tr α → Tr α :=
  Pos.rec (motive := fun _ => Tr α → Tr α)
    (fun t => Tr.rec (motive := fun _ => Tr α) (.n .e v .e) (fun l _ r _ _ => .n l v r) t)
    (fun _ ih t => Tr.rec (motive := fun _ => Tr α) (.n (ih .e) d .e)
      (fun l x r _ _ => Tr.rec (motive := fun _ => Tr α) .e (fun a b c _ _ => .n (.n a b c) x r) (ih l)) t)
    (fun _ ih t => Tr.rec (motive := fun _ => Tr α) (.n .e d (ih .e))
      (fun l x r _ _ => Tr.rec (motive := fun _ => Tr α) .e (fun a b c _ _ => .n l x (.n a b c)) (ih r)) t) p
noncomputable def path (n : Nat) : Pos := Nat.rec (motive := fun _ => Pos) .h (fun _ ih => ih.succ) n
inductive RV where
  | bool (b : Bool)
  | int (k : IntKind) (n : Int)
  | str (s : List Nat)
  | ptr (a : Pos) (o : Nat)
  | nilPtr
  | slice (a : Pos) (o l c : Nat) (u : Option Nat)
  | nilSlice
  | map (a : Pos)
  | nilMap
  | func (fn : Fn) (first cap : List RV)
  | yield (a : Pos)
  | nilFunc
  | iface (t : TypeId) (v : RV)
  | nilIface
  | agg (l : List RV)
  | tuple (l : List RV)
  | symV (a : Pos)
  | symI (a : Pos) (ne : List Int)
  | symL (a j : Pos) (ne : List Int)
  | none
def undef : RV := .tuple []
structure ME where
  key : RV
  val : RV
  born : Nat
inductive DF where
  | call (fn : Fn) (cap args : List RV)
  | coll (a : Pos)
inductive RO where
  | dead
  | cells (cs : List RV)
  | ro (cs : List RV)
  | map (es : List ME) (clock : Nat)
  | mapIter (m : Option Pos) (since : Nat) (seen : List Nat) (stepped : Nat)
  | mapAt (a : Pos) (born stepped : Nat)
  | loop (st : LoopState) (pend : Option Code) (fn : FuncId) (t : Tr RV) (ps : List Tmp) (n : Nat) (asg body : Code) (ds : Pos)
  | deferred (ds : Option (List DF))
structure Hp where
  h : Tr RO
  nx : Pos
  wm : Pos
structure Aux where
  ds : List DF
  ro : Option Pos
inductive CR where
  | bad
  | ok (v : RV) (m : Hp)
inductive Tgt where
  | fn (f : FuncId)
  | yield (a : Pos)
abbrev CallF := Tgt → List RV → Hp → CR
inductive OR where
  | bad
  | ok (t : Tr RV) (m : Hp)
  | dfr (d : DF) (t : Tr RV) (m : Hp)
inductive Out where
  | bad
  | norm (x : Aux) (t : Tr RV) (m : Hp)
  | exit (id : Nat) (x : Aux) (t : Tr RV) (m : Hp)
  | ret (x : Aux) (t : Tr RV) (m : Hp)
mutual
noncomputable def ofV : Value → RV
  | .bool b => .bool b
  | .int k n => .int k n
  | .string s => .str (s.data.toList.map UInt8.toNat)
  | .pointer Option.none => .nilPtr
  | .slice Option.none 0 0 => .nilSlice
  | .map Option.none => .nilMap
  | .func (.func f) (.mk []) (.mk []) => .func (.func f) [] []
  | .nilFunc => .nilFunc
  | .iface t v => .iface t (ofV v)
  | .nilIface => .nilIface
  | .agg (.mk cs) => .agg (ofVs cs)
  | .tuple (.mk cs) => .tuple (ofVs cs)
  | _ => .none
noncomputable def ofVs : List Value → List RV
  | [] => []
  | v :: r => ofV v :: ofVs r
end
mutual
noncomputable def RV.known : RV → Bool
  | .none => false
  | .iface _ v => v.known
  | .agg l => knowns l
  | .tuple l => knowns l
  | .func _ a b => knowns a && knowns b
  | _ => true
noncomputable def knowns : List RV → Bool
  | [] => true
  | v :: r => v.known && knowns r
end
noncomputable def lnth (i : Nat) (l : List RV) (k : RV → OR) : OR :=
  Nat.rec (motive := fun _ => List RV → OR) (fun l => List.rec (motive := fun _ => OR) .bad (fun x _ _ => k x) l)
    (fun _ ih l => List.rec (motive := fun _ => OR) .bad (fun _ r _ => ih r) l) i l
noncomputable def ldrop (i : Nat) (l : List RV) : List RV :=
  Nat.rec (motive := fun _ => List RV → List RV) (fun l => l) (fun _ ih l => List.rec (motive := fun _ => List RV) [] (fun _ r _ => ih r) l) i l
noncomputable def ltakeK (n : Nat) (l : List RV) (k : List RV → OR) : OR :=
  Nat.rec (motive := fun _ => List RV → (List RV → OR) → OR) (fun _ k => k [])
    (fun _ ih l k => List.rec (motive := fun _ => OR) .bad (fun x r _ => ih r fun y => k (x :: y)) l) n l k
noncomputable def loverK (vs l : List RV) (k : List RV → OR) : OR :=
  List.rec (motive := fun _ => List RV → (List RV → OR) → OR) (fun l k => k l)
    (fun v _ ih l k => List.rec (motive := fun _ => OR) .bad (fun _ r _ => ih r fun y => k (v :: y)) l) vs l k
noncomputable def lputK (i : Nat) (vs l : List RV) (k : List RV → OR) : OR :=
  Nat.rec (motive := fun _ => List RV → (List RV → OR) → OR) (fun l k => loverK vs l k)
    (fun _ ih l k => List.rec (motive := fun _ => OR) .bad (fun x r _ => ih r fun y => k (x :: y)) l) i l k
noncomputable def llen (l : List RV) : Nat := List.rec (motive := fun _ => Nat) 0 (fun _ _ ih => Nat.succ ih) l
noncomputable def reps (n : Nat) (z : List RV) : List RV := Nat.rec (motive := fun _ => List RV) [] (fun _ ih => z ++ ih) n
noncomputable def RV.cells (v : RV) : List RV := match v with | .agg l => l | v => [v]
noncomputable def RV.ptrK (v : RV) (k : Pos → Nat → OR) : OR := match v with | .ptr a o => k a o | _ => .bad
noncomputable def RV.boolK (v : RV) (k : Bool → OR) : OR := match v with | .bool b => k b | _ => .bad
noncomputable def RV.intK (v : RV) (k : IntKind → Int → OR) : OR := match v with | .int t n => k t n | _ => .bad
noncomputable def RV.natK (v : RV) (k : Nat → OR) : OR := match v with | .int _ (.ofNat n) => k n | _ => .bad
noncomputable def RV.tupleK (v : RV) (k : List RV → OR) : OR := match v with | .tuple l => k l | _ => .bad
noncomputable def RV.aggK (v : RV) (k : List RV → OR) : OR := match v with | .agg l => k l | _ => .bad
noncomputable def RV.someK (v : RV) (k : RV → OR) : OR := match v with | .none => .bad | v => k v
noncomputable def RV.strK (v : RV) (k : List Nat → OR) : OR := match v with | .str s => k s | _ => .bad
noncomputable def RV.mapE (v : RV) (nl : OR) (k : Pos → OR) : OR := match v with | .nilMap => nl | .map a => k a | _ => .bad
noncomputable def RV.sliceE (v : RV) (nl : OR) (k : Pos → Nat → Nat → Nat → Option Nat → OR) : OR := match v with | .nilSlice => nl | .slice a o l c u => k a o l c u | _ => .bad
noncomputable def RV.isCell (v : RV) : Bool := match v with | .agg _ => false | .tuple _ => false | .none => false | _ => true
noncomputable def allCells (l : List RV) : Bool := List.rec (motive := fun _ => Bool) true (fun v _ ih => Bool.rec (motive := fun _ => Bool) false ih v.isCell) l
noncomputable def RO.cellsK (o : RO) (k : List RV → OR) : OR := match o with | .cells cs => k cs | _ => .bad
noncomputable def RO.rdK (o : RO) (k : List RV → OR) : OR := match o with | .cells cs => k cs | .ro cs => k cs | _ => .bad
noncomputable def RO.mapK (o : RO) (k : List ME → Nat → OR) : OR := match o with | .map es c => k es c | _ => .bad
noncomputable def iteK (b : Bool) (x y : OR) : OR := Bool.rec (motive := fun _ => OR) y x b
noncomputable def wrapI (k : IntKind) (n : Int) : Int :=
  match k with
  | .i64 => (match n with
    | .ofNat m => (match Nat.ble m 9223372036854775807 with | true => n | false => k.wrap n)
    | .negSucc m => (match Nat.ble m 9223372036854775807 with | true => n | false => k.wrap n))
  | _ => k.wrap n
noncomputable def ieq (a b : Int) : Bool :=
  match a, b with
  | .ofNat m, .ofNat n => Nat.beq m n
  | .negSucc m, .negSucc n => Nat.beq m n
  | _, _ => false
noncomputable def ile (a b : Int) : Bool :=
  match a, b with
  | .ofNat m, .ofNat n => Nat.ble m n
  | .negSucc m, .negSucc n => Nat.ble n m
  | .negSucc _, .ofNat _ => true
  | .ofNat _, .negSucc _ => false
noncomputable def inI (x : Int) (l : List Int) : Bool := List.rec (motive := fun _ => Bool) false (fun y _ ih => match ieq x y with | true => true | false => ih) l
noncomputable def seq : List Nat → List Nat → Bool
  | [], [] => true
  | a :: x, b :: y => (match Nat.beq a b with | true => seq x y | false => false)
  | _, _ => false
noncomputable def slt : List Nat → List Nat → Bool
  | _, [] => false
  | [], _ :: _ => true
  | a :: x, b :: y => (match Nat.blt a b with | true => true | false => (match Nat.beq a b with | true => slt x y | false => false))
section
variable (P : Program)
noncomputable def und (t : TypeId) : TypeDesc := (P.underlying t).getD .invalid
noncomputable def size (t : TypeId) : Nat := P.cellsOf t
noncomputable def validT (t : TypeId) : Bool := match und P t with | .invalid => false | _ => true
noncomputable def aggT (t : TypeId) : Bool := match und P t with | .struct _ | .array _ _ => true | _ => false
noncomputable def zeroT (t : TypeId) : RV := ofV (((P.info? t).bind (·.zero)).getD (.func (.yield 0) #[] #[]))
noncomputable def elemS (t : TypeId) : Option TypeId := match und P t with | .slice e => some e | _ => Option.none
end
abbrev Opd := Tr RV → RV
noncomputable def cOpd : Operand → Opd
  | .tmp t => fun s => Tr.get undef (path t) s
  | .const v => fun _ => ofV v
  | .global _ => fun _ => .none
  | .func f => fun _ => .func (.func f) [] []
noncomputable def okOpd : Operand → Bool
  | .tmp _ => true
  | .const v => (ofV v).known
  | .global _ => false
  | .func _ => true
abbrev OpF := CallF → Tr RV → Hp → OR
abbrev Put := RV → Tr RV → Hp → OR
noncomputable def badOp : OpF := fun _ _ _ => .bad
noncomputable def putd (n : Nat) (dst : Option Tmp) : Put :=
  match dst with
  | some d => (match Nat.blt d n with | true => fun v t m => .ok (Tr.set undef (path d) v t) m | false => fun _ _ _ => .bad)
  | Option.none => fun _ t m => .ok t m
noncomputable def newK (m : Hp) (o : RO) (k : Pos → Hp → OR) : OR := match m with | ⟨h, nx, wm⟩ => k nx ⟨Tr.set .dead nx o h, nx.succ, wm⟩
noncomputable def Hp.put (m : Hp) (a : Pos) (o : RO) : Hp := match m with | ⟨h, nx, wm⟩ => ⟨Tr.set .dead a o h, nx, Pos.min a wm⟩
noncomputable def Hp.at (m : Hp) (a : Pos) : RO := Tr.get .dead a m.h
noncomputable def loadO (agg : Bool) (sz : Nat) (m : Hp) (x : RV) (k : RV → OR) : OR :=
  x.ptrK fun a o => (m.at a).rdK fun cs =>
    match agg with
    | true => ltakeK sz (ldrop o cs) fun l => k (.agg l)
    | false => lnth o cs k
noncomputable def storeO (sz : Nat) (m : Hp) (x v : RV) (k : Hp → OR) : OR :=
  x.ptrK fun a o => (m.at a).cellsK fun cs =>
    iteK (Nat.beq (llen v.cells) sz) (iteK (allCells v.cells) (lputK o v.cells cs fun cs' => k (m.put a (.cells cs'))) .bad) .bad
noncomputable def firstK (sz : Nat) (m : Hp) (x : RV) (k : List RV → OR) : OR :=
  x.sliceE .bad fun a o l _ _ => (m.at a).rdK fun cs => ltakeK (l * sz) (ldrop o cs) k
noncomputable def room (n by_ : Nat) : Bool := match Nat.ble n 1099511627776 with | true => Nat.ble ((2 * n) * by_) 281474976710656 | false => false
noncomputable def appendS (sz by_ n : Nat) (new : List RV) (put : Put) (x : RV) (t : Tr RV) (m : Hp) : OR :=
  x.sliceE (iteK (room n by_) (newK m (.cells new) fun a m => put (.slice a 0 n n (some sz)) t m) .bad) fun a o l c u =>
    iteK (Nat.ble (l + n) c)
      (iteK (allCells new) ((m.at a).cellsK fun cs => lputK (o + l * sz) new cs fun cs' => put (.slice a o (l + n) c u) t (m.put a (.cells cs'))) .bad)
      (iteK (room (l + n) by_)
        (firstK sz m x fun old =>
          match u with
          | Option.none => newK m (.cells (old ++ new)) fun b m => put (.slice b 0 (l + n) (l + n) (some sz)) t m
          | some z => iteK (Nat.beq z sz) (iteK (allCells new) ((m.at a).cellsK fun _ => newK (m.put a .dead) (.cells (old ++ new)) fun b m => put (.slice b 0 (l + n) (l + n) (some sz)) t m) .bad) .bad) .bad)
noncomputable def appendO (sz by_ : Nat) (put : Put) (x y : RV) (t : Tr RV) (m : Hp) : OR :=
  let nothing := x.sliceE (put .nilSlice t m) fun a o l c u => put (.slice a o l c u) t m
  y.sliceE nothing fun _ _ n _ _ => (match n with
    | 0 => nothing
    | n + 1 => firstK sz m y fun new => appendS sz by_ (n + 1) new put x t m)
noncomputable def keq1 (x y : RV) : Option Bool :=
  match x, y with
  | .int j a, .int k b => (match decide (j = k) with | true => some (ieq a b) | false => Option.none)
  | .str a, .str b => some (seq a b)
  | .bool a, .bool b => some (a == b)
  | _, _ => Option.none
noncomputable def findK (k : RV) : List ME → (Option RV → OR) → OR
  | [], c => c Option.none
  | e :: es, c => (match keq1 k e.key with | some true => c (some e.val) | some false => findK k es c | Option.none => .bad)
noncomputable def updK (k v : RV) (clock : Nat) : List ME → (List ME → Nat → OR) → OR
  | [], c => c [⟨k, v, clock⟩] (clock + 1)
  | e :: es, c => (match keq1 k e.key with
    | some true => c (⟨k, v, e.born⟩ :: es) clock
    | some false => updK k v clock es fun es' n => c (e :: es') n
    | Option.none => .bad)
noncomputable def delK (k : RV) : List ME → (List ME → OR) → OR
  | [], c => c []
  | e :: es, c => (match keq1 k e.key with | some true => c es | some false => delK k es fun es' => c (e :: es') | Option.none => .bad)
noncomputable def keyIs (d : TypeDesc) (k : RV) : Bool := match d, k with | .int j, .int i _ => decide (i = j) | .string, .str _ => true | .bool, .bool _ => true | _, _ => false
noncomputable def scalarT (P : Program) (t : TypeId) : Bool := match und P t with | .int _ | .string | .bool => true | _ => false
noncomputable def binF (op : BinOp) : RV → RV → Put → Tr RV → Hp → OR :=
  match op with
  | .add => fun x y put t m => (match x, y with
    | .int k a, .int j b => iteK (decide (k = j)) (put (.int k (wrapI k (a + b))) t m) .bad
    | .str a, .str b => iteK (Nat.ble (a.length + b.length) 1000000) (put (.str (a ++ b)) t m) .bad
    | _, _ => .bad)
  | .sub => fun x y put t m => (match x, y with | .int k a, .int j b => iteK (decide (k = j)) (put (.int k (wrapI k (a - b))) t m) .bad | _, _ => .bad)
  | .mul => fun x y put t m => (match x, y with | .int k a, .int j b => iteK (decide (k = j)) (put (.int k (wrapI k (a * b))) t m) .bad | _, _ => .bad)
  | .quo => fun x y put t m => (match x, y with | .int k a, .int j b => iteK (decide (k = j)) (iteK (ieq b 0) .bad (put (.int k (wrapI k (a.tdiv b))) t m)) .bad | _, _ => .bad)
  | .rem => fun x y put t m => (match x, y with | .int k a, .int j b => iteK (decide (k = j)) (iteK (ieq b 0) .bad (put (.int k (a.tmod b)) t m)) .bad | _, _ => .bad)
  | .lss => fun x y put t m => (match x, y with
    | .int k a, .int j b => iteK (decide (k = j)) (put (.bool (!ile b a)) t m) .bad
    | .str a, .str b => put (.bool (slt a b)) t m
    | _, _ => .bad)
  | .leq => fun x y put t m => (match x, y with
    | .int k a, .int j b => iteK (decide (k = j)) (put (.bool (ile a b)) t m) .bad
    | _, _ => .bad)
  | .gtr => fun x y put t m => (match x, y with
    | .int k a, .int j b => iteK (decide (k = j)) (put (.bool (!ile a b)) t m) .bad
    | _, _ => .bad)
  | .geq => fun x y put t m => (match x, y with
    | .int k a, .int j b => iteK (decide (k = j)) (put (.bool (ile b a)) t m) .bad
    | _, _ => .bad)
  | .eql => fun x y put t m => (match x, y with
    | .int k a, .int j b => iteK (decide (k = j)) (put (.bool (ieq a b)) t m) .bad
    | .str a, .str b => put (.bool (seq a b)) t m
    | .symI _ ne, .int j b => iteK (decide (IntKind.i64 = j)) (iteK (inI b ne) (put (.bool false) t m) .bad) .bad
    | .int j b, .symI _ ne => iteK (decide (IntKind.i64 = j)) (iteK (inI b ne) (put (.bool false) t m) .bad) .bad
    | _, _ => .bad)
  | .neq => fun x y put t m => (match x, y with
    | .int k a, .int j b => iteK (decide (k = j)) (put (.bool (!ieq a b)) t m) .bad
    | .str a, .str b => put (.bool (!seq a b)) t m
    | .symI _ ne, .int j b => iteK (decide (IntKind.i64 = j)) (iteK (inI b ne) (put (.bool true) t m) .bad) .bad
    | .int j b, .symI _ ne => iteK (decide (IntKind.i64 = j)) (iteK (inI b ne) (put (.bool true) t m) .bad) .bad
    | _, _ => .bad)
  | _ => fun _ _ _ _ _ => .bad
noncomputable def eqF (d : TypeDesc) (flip : Bool) (x y : RV) (put : Put) (t : Tr RV) (m : Hp) : OR :=
  match d with
  | .bool => (match x, y with | .bool a, .bool b => put (.bool (xor flip (a == b))) t m | _, _ => .bad)
  | .pointer _ => (match x, y with
    | .nilPtr, .nilPtr => put (.bool (xor flip true)) t m
    | .ptr _ _, .nilPtr => put (.bool (xor flip false)) t m
    | .nilPtr, .ptr _ _ => put (.bool (xor flip false)) t m
    | _, _ => .bad)
  | .slice _ => (match x, y with
    | .nilSlice, .nilSlice => put (.bool (xor flip true)) t m
    | .slice _ _ _ _ _, .nilSlice => put (.bool (xor flip false)) t m
    | .nilSlice, .slice _ _ _ _ _ => put (.bool (xor flip false)) t m
    | _, _ => .bad)
  | .map _ _ => (match x, y with
    | .nilMap, .nilMap => put (.bool (xor flip true)) t m
    | .map _, .nilMap => put (.bool (xor flip false)) t m
    | .nilMap, .map _ => put (.bool (xor flip false)) t m
    | _, _ => .bad)
  | .func _ _ _ => (match x, y with
    | .nilFunc, .nilFunc => put (.bool (xor flip true)) t m
    | .func _ _ _, .nilFunc => put (.bool (xor flip false)) t m
    | .nilFunc, .func _ _ _ => put (.bool (xor flip false)) t m
    | _, _ => .bad)
  | _ => .bad
section
variable (P : Program) (n : Nat)
noncomputable def structF (t : TypeId) : Option (List Field) := match und P t with | .struct f => some f.toList | _ => Option.none
noncomputable def fillK (place : Nat → Option (Nat × Nat)) : List (Nat × Opd) → Tr RV → List RV → (List RV → OR) → OR
  | [], _, cells, k => k cells
  | (i, x) :: r, t, cells, k =>
    match place i with
    | some (off, sz) => (x t).someK fun v => iteK (Nat.beq (llen v.cells) sz) (lputK off v.cells cells fun cells => fillK place r t cells k) .bad
    | Option.none => .bad
noncomputable def parts (ps : Array (Nat × Operand)) : List (Nat × Opd) := ps.toList.map fun p => (p.1, cOpd p.2)
noncomputable def cAlloc (put : Put) (ty : TypeId) : OpF :=
  let z := zeroT P ty
  match z.known with
  | true => (let cs := z.cells; fun _ t m => newK m (.cells cs) fun a m => put (.ptr a 0) t m)
  | false => badOp
noncomputable def cBuild (put : Put) (ty : TypeId) (ps : Array (Nat × Operand)) : OpF :=
  let z := zeroT P ty
  match z.known with
  | true =>
    (let cs := z.cells; let xs := parts ps
     match und P ty with
     | .struct f => (let fs := f.toList; if fs.all (fun f => validT P f.type) = true then fun _ t m => fillK (fun i => (fs[i]?).map fun f => (f.offset, size P f.type)) xs t cs fun cs => put (.agg cs) t m else badOp)
     | .array _ e => (let sz := size P e; if validT P e = true then fun _ t m => fillK (fun i => some (i * sz, sz)) xs t cs fun cs => put (.agg cs) t m else badOp)
     | _ => badOp)
  | false => badOp
noncomputable def cBuildSlice (put : Put) (ty : TypeId) (len : Nat) (ps : Array (Nat × Operand)) : OpF :=
  match elemS P ty with
  | some e =>
    (let sz := size P e; let z := zeroT P e
     match z.known && Nat.beq (llen z.cells) sz && Nat.ble (len * sz) 16777216 with
     | true => (let cs := reps len z.cells; let xs := parts ps
                fun _ t m => fillK (fun i => some (i * sz, sz)) xs t cs fun cs => newK m (.cells cs) fun a m => put (.slice a 0 len len Option.none) t m)
     | false => badOp)
  | Option.none => badOp
noncomputable def cMakeSlice (put : Put) (ty : TypeId) (l c : Operand) : OpF :=
  match elemS P ty with
  | some e =>
    (let sz := size P e; let by_ := P.bytesOf e; let z := zeroT P e; let l := cOpd l; let c := cOpd c
     match z.known && Nat.beq (llen z.cells) sz with
     | true => (let zc := z.cells
                fun _ t m => (l t).natK fun l => (c t).natK fun c =>
                  iteK (Nat.ble l c) (iteK (Nat.ble c 1099511627776) (iteK (Nat.ble (by_ * c) 281474976710656)
                    (newK m (.cells (reps c zc)) fun a m => put (.slice a 0 l c Option.none) t m) .bad) .bad) .bad)
     | false => badOp)
  | Option.none => badOp
noncomputable def cField (put : Put) (ty : TypeId) (x : Operand) (f : Nat) : OpF :=
  match (structF P ty).bind (fun fs => fs[f]?) with
  | some fd =>
    (let x := cOpd x; let off := fd.offset; let sz := size P fd.type
     match aggT P fd.type with
     | true => fun _ t m => (x t).aggK fun l => ltakeK sz (ldrop off l) fun l => put (.agg l) t m
     | false => if validT P fd.type = true then fun _ t m => (x t).aggK fun l => lnth off l fun v => put v t m else badOp)
  | Option.none => badOp
noncomputable def cFieldAddr (put : Put) (ty : TypeId) (x : Operand) (f : Nat) : OpF :=
  match (structF P ty).bind (fun fs => fs[f]?) with
  | some fd =>
    (let x := cOpd x; let off := fd.offset
     match size P fd.type with
     | 0 => badOp
     | _ + 1 => fun _ t m => (x t).ptrK fun a o => put (.ptr a (o + off)) t m)
  | Option.none => badOp
noncomputable def cIndexAddr (put : Put) (ty : TypeId) (x i : Operand) : OpF :=
  let x := cOpd x; let i := cOpd i
  match und P ty with
  | .slice e => (let sz := size P e
    if validT P e = true then fun _ t m => (x t).sliceE .bad fun a o l _ _ => (i t).natK fun i => iteK (Nat.blt i l) (put (.ptr a (o + i * sz)) t m) .bad else badOp)
  | .array len e => (let sz := size P e
    if validT P e = true then fun _ t m => (x t).ptrK fun a o => (i t).natK fun i => iteK (Nat.blt i len) (put (.ptr a (o + i * sz)) t m) .bad else badOp)
  | _ => badOp
noncomputable def cIndex (put : Put) (ty : TypeId) (x i : Operand) : OpF :=
  let x := cOpd x; let i := cOpd i
  match und P ty with
  | .string => fun _ t m => (x t).strK fun s => (i t).natK fun i => (match s[i]? with | some b => put (.int .u8 (.ofNat b)) t m | Option.none => .bad)
  | .array len e => (let sz := size P e
    match aggT P e with
    | true => fun _ t m => (x t).aggK fun l => (i t).natK fun i => iteK (Nat.blt i len) (ltakeK sz (ldrop (i * sz) l) fun l => put (.agg l) t m) .bad
    | false => if validT P e = true then fun _ t m => (x t).aggK fun l => (i t).natK fun i => iteK (Nat.blt i len) (lnth (i * sz) l fun v => put v t m) .bad else badOp)
  | _ => badOp
noncomputable def optK (o : Option Opd) (d : Nat) (t : Tr RV) (k : Nat → OR) : OR := match o with | some f => (f t).natK k | Option.none => k d
noncomputable def cSlice (put : Put) (ty : TypeId) (x : Operand) (lo hi mx : Option Operand) : OpF :=
  let x := cOpd x; let lo := lo.map cOpd; let hi := hi.map cOpd; let mx := mx.map cOpd
  match und P ty with
  | .string => (match mx with
    | some _ => badOp
    | Option.none => fun _ t m => (x t).strK fun s => optK hi s.length t fun h => iteK (Nat.ble h s.length) (optK lo 0 t fun l => iteK (Nat.ble l h) (put (.str ((s.take h).drop l)) t m) .bad) .bad)
  | .slice e => (let sz := size P e
    if validT P e = true then match mx, hi with
    | some mx, some hi => fun _ t m => (x t).sliceE
        ((mx t).natK fun mx => (match mx with | 0 => (hi t).natK fun h => (match h with | 0 => optK lo 0 t fun l => (match l with | 0 => put .nilSlice t m | _ => .bad) | _ => .bad) | _ => .bad))
        fun a o _ c _ => (mx t).natK fun mx => iteK (Nat.ble mx c) ((hi t).natK fun h => iteK (Nat.ble h mx) (optK lo 0 t fun l => iteK (Nat.ble l h)
            (put (.slice a (o + l * sz) (h - l) (mx - l) Option.none) t m) .bad) .bad) .bad
    | some _, Option.none => badOp
    | Option.none, hi => fun _ t m => (x t).sliceE
        (optK hi 0 t fun h => (match h with | 0 => optK lo 0 t fun l => (match l with | 0 => put .nilSlice t m | _ => .bad) | _ => .bad))
        fun a o n c u => optK hi n t fun h => iteK (Nat.ble h c) (optK lo 0 t fun l => iteK (Nat.ble l h)
            (iteK (match u with | Option.none => true | some z => Nat.beq z sz) (put (.slice a (o + l * sz) (h - l) (c - l) u) t m) .bad) .bad) .bad
    else badOp)
  | _ => badOp
noncomputable def eqOp (op : BinOp) (d : TypeDesc) (x y : Opd) (put : Put) : OpF :=
  match op with
  | .eql => fun _ t m => eqF d false (x t) (y t) put t m
  | .neq => fun _ t m => eqF d true (x t) (y t) put t m
  | _ => badOp
noncomputable def cBin (put : Put) (op : BinOp) (ty : TypeId) (x y : Operand) : OpF :=
  let x := cOpd x; let y := cOpd y
  match und P ty with
  | .int _ | .string => (let f := binF op; fun _ t m => f (x t) (y t) put t m)
  | d => eqOp op d x y put
noncomputable def cUn (put : Put) (op : UnOp) (x : Operand) : OpF :=
  let x := cOpd x
  match op with
  | .not => fun _ t m => (x t).boolK fun b => put (.bool (!b)) t m
  | .neg => fun _ t m => (x t).intK fun k a => put (.int k (wrapI k (0 - a))) t m
  | _ => badOp
noncomputable def cConv (put : Put) (s d : TypeId) (x : Operand) : OpF :=
  let x := cOpd x
  if validT P s = true then match und P d with
  | .int k => fun _ t m => (x t).intK fun _ a => put (.int k (wrapI k a)) t m
  | .string => (match und P s with
    | .string => fun _ t m => (match x t with | .str s => put (.str s) t m | _ => .bad)
    | _ => badOp)
  | _ => badOp
  else badOp
noncomputable def mapElem (ty : TypeId) : Option (TypeId × TypeId) := match und P ty with | .map k e => some (k, e) | _ => Option.none
noncomputable def cLookup (put : Put) (ty : TypeId) (x k : Operand) (ok : Bool) : OpF :=
  match mapElem P ty with
  | some (kt, e) =>
    (let x := cOpd x; let k := cOpd k; let z := zeroT P e
     match z.known && scalarT P kt with
     | true =>
       (let fin : Put := fun v t m => (match ok with | true => put (.tuple [v, .bool true]) t m | false => put v t m)
        let no : Tr RV → Hp → OR := fun t m => (match ok with | true => put (.tuple [z, .bool false]) t m | false => put z t m)
        fun _ t m => (x t).mapE (no t m) fun a => (m.at a).mapK fun es _ => iteK (keyIs (und P kt) (k t)) (findK (k t) es fun r => (match r with | some v => fin v t m | Option.none => no t m)) .bad)
     | false => badOp)
  | Option.none => badOp
noncomputable def cMapUpdate (put : Put) (ty : TypeId) (x k v : Operand) : OpF :=
  match mapElem P ty with
  | some (kt, _) =>
    (let x := cOpd x; let k := cOpd k; let v := cOpd v
     match scalarT P kt with
     | true => fun _ t m => (x t).mapE .bad fun a => (m.at a).mapK fun es c => iteK (keyIs (und P kt) (k t)) (updK (k t) (v t) c es fun es c => put undef t (m.put a (.map es c))) .bad
     | false => badOp)
  | Option.none => badOp
noncomputable def cRange (put : Put) (ty : TypeId) (x : Operand) : OpF :=
  let x := cOpd x
  match und P ty with
  | .map _ _ => fun _ t m => (x t).mapE (newK m (.mapIter Option.none 0 [] 0) fun b m => put (.ptr b 0) t m)
      fun a => (m.at a).mapK fun _ c => newK m (.mapIter (some a) c [] c) fun b m => put (.ptr b 0) t m
  | _ => badOp
noncomputable def inL (x : Nat) (l : List Nat) : Bool := List.rec (motive := fun _ => Bool) false (fun y _ ih => match Nat.beq x y with | true => true | false => ih) l
noncomputable def leftK (seen : List Nat) (since : Nat) : List ME → (List ME → OR) → OR
  | [], c => c []
  | e :: es, c => (match Nat.blt e.born since with
    | true => (match inL e.born seen with | true => leftK seen since es c | false => leftK seen since es fun l => c (e :: l))
    | false => .bad)
noncomputable def cNext (put : Put) (it : Operand) (str : Bool) : OpF :=
  let it := cOpd it
  match str with
  | true => badOp
  | false => fun _ t m => (it t).ptrK fun b o => (match o with
    | 0 => (match m.at b with
      | .mapIter Option.none _ _ _ => put (.tuple [.bool false]) t m
      | .mapIter (some a) since seen last => (m.at a).mapK fun es clock => iteK (Nat.beq clock last && Nat.ble since last) (leftK seen since es fun l => (match l with
        | [] => put (.tuple [.bool false]) t m
        | [e] => put (.tuple [.bool true, e.key, e.val]) t (m.put b (.mapIter (some a) since (seen ++ [e.born]) clock))
        | _ => .bad)) .bad
      | _ => .bad)
    | _ => .bad)
noncomputable def findB (b : Nat) : List ME → (ME → OR) → OR
  | [], _ => .bad
  | e :: es, c => (match Nat.beq e.born b with | true => c e | false => findB b es c)
noncomputable def lastK : List Nat → (Nat → OR) → OR
  | [], _ => .bad
  | [x], c => c x
  | _ :: l, c => lastK l c
noncomputable def cEntry (put : Put) (it : Operand) : OpF :=
  let it := cOpd it
  fun _ t m => (it t).ptrK fun b o => (match o with
    | 0 => (match m.at b with
      | .mapIter (some a) _ seen stepped => lastK seen fun s => (m.at a).mapK fun es clock => iteK (Nat.beq clock stepped) (findB s es fun e => put (.tuple [e.key, e.val]) t m) .bad
      | .mapAt a s stepped => (m.at a).mapK fun es clock => iteK (Nat.beq clock stepped) (findB s es fun e => put (.tuple [e.key, e.val]) t m) .bad
      | _ => .bad)
    | _ => .bad)
noncomputable def cBuiltin (put : Put) (b : Builtin) (args : List Operand) (ts : List TypeId) : OpF :=
  match b, args, ts with
  | .len, [x], [ty] => (match und P ty with
    | .string => (let x := cOpd x; fun _ t m => (x t).strK fun s => put (.int .i64 (.ofNat s.length)) t m)
    | .slice _ => (let x := cOpd x; fun _ t m => (match x t with | .symL _ j ne => put (.symI j ne) t m | v => v.sliceE (put (.int .i64 (.ofNat 0)) t m) fun _ _ l _ _ => put (.int .i64 (.ofNat l)) t m))
    | .map _ _ => (let x := cOpd x; fun _ t m => (x t).mapE (put (.int .i64 (.ofNat 0)) t m) fun a => (m.at a).mapK fun es _ => put (.int .i64 (.ofNat es.length)) t m)
    | _ => badOp)
  | .append, [x, y], [tt, tx] => (match und P tt, und P tx with
    | .slice e, .slice _ => (let sz := size P e; let by_ := P.bytesOf e; let x := cOpd x; let y := cOpd y; let z := zeroT P e
      match z.known && Nat.beq (llen z.cells) sz with
      | true => fun _ t m => appendO sz by_ put (x t) (y t) t m
      | false => badOp)
    | _, _ => badOp)
  | .delete, [x, k], ty :: _ => (match mapElem P ty with
    | some (kt, _) => (let x := cOpd x; let k := cOpd k
      match scalarT P kt with
      | true => fun _ t m => (x t).mapE .bad fun a => (m.at a).mapK fun es c => iteK (keyIs (und P kt) (k t)) (delK (k t) es fun es => put undef t (m.put a (.map es c))) .bad
      | false => badOp)
    | Option.none => badOp)
  | .clear, [x], [ty] => (match elemS P ty with
    | some e => (let x := cOpd x; let z := zeroT P e; let sz := size P e
      match z.known && Nat.beq (llen z.cells) sz with
      | true => (let zc := z.cells
                 fun _ t m => (x t).sliceE (put undef t m) fun a o l _ _ => (match l with
                    | 0 => put undef t m
                    | l + 1 => (let cs := reps (l + 1) zc; iteK (allCells cs) ((m.at a).cellsK fun old => lputK o cs old fun new => put undef t (m.put a (.cells new))) .bad)))
      | false => badOp)
    | Option.none => badOp)
  | .max, [x, y], _ => (let x := cOpd x; let y := cOpd y
    fun _ t m => (x t).intK fun k a => (y t).intK fun _ b => put (.int k (match ile b a with | true => a | false => b)) t m)
  | .min, [x, y], _ => (let x := cOpd x; let y := cOpd y
    fun _ t m => (x t).intK fun k a => (y t).intK fun _ b => put (.int k (match ile a b with | true => a | false => b)) t m)
  | .cap, [x], [ty] => (let x := cOpd x
    match und P ty with
    | .slice _ => fun _ t m => (x t).sliceE (put (.int .i64 (.ofNat 0)) t m) fun _ _ _ c u => (match u with | Option.none => put (.int .i64 (.ofNat c)) t m | some _ => .bad)
    | _ => badOp)
  | _, _, _ => badOp
noncomputable def argsOf (args : List Opd) (t : Tr RV) : List RV := List.rec (motive := fun _ => List RV) [] (fun x _ ih => x t :: ih) args
noncomputable def cCall (put : Put) (f : Operand) (args : List Opd) : OpF :=
  let f := cOpd f
  fun call t m => match f t with
    | .func (.func k) first cap => (match call (.fn k) (first ++ (argsOf args t ++ cap)) m with | .ok v m => put v t m | .bad => .bad)
    | _ => .bad
noncomputable def cOp (dst : Option Tmp) (op : Op) : OpF :=
  let put := putd n dst
  match op with
  | .move x | .assign x => (let x := cOpd x; fun _ t m => put (x t) t m)
  | .pick c a b => (let c := cOpd c; let a := cOpd a; let b := cOpd b
    fun _ t m => (c t).boolK fun c => iteK c (put (a t) t m) (put (b t) t m))
  | .alloc ty => cAlloc P put ty
  | .box _ x => (let x := cOpd x; fun _ t m => (x t).someK fun v => newK m (.cells v.cells) fun a m => put (.ptr a 0) t m)
  | .build ty ps => cBuild P put ty ps
  | .buildSlice ty len ps => cBuildSlice P put ty len ps
  | .load ty x => (let x := cOpd x; let ag := aggT P ty; let sz := size P ty; if validT P ty = true then fun _ t m => loadO ag sz m (x t) fun v => put v t m else badOp)
  | .store ty x v => (let x := cOpd x; let v := cOpd v; let sz := size P ty; if validT P ty = true then fun _ t m => storeO sz m (x t) (v t) fun m => put undef t m else badOp)
  | .nilCheck x => (let x := cOpd x; fun _ t m => (match x t with | .ptr a o => put (.ptr a o) t m | _ => .bad))
  | .binOp op ty x y _ => cBin P put op ty x y
  | .unOp op _ x => cUn put op x
  | .convert s d x => cConv P put s d x
  | .makeInterface ty x => (match und P ty with
    | .interface _ => badOp
    | .invalid => badOp
    | _ => (let x := cOpd x; fun _ t m => put (.iface ty (x t)) t m))
  | .makeFunc fn a b => (match fn with
    | .func f => (let a := a.toList.map cOpd; let b := b.toList.map cOpd; fun _ t m => put (.func (.func f) (argsOf a t) (argsOf b t)) t m)
    | _ => badOp)
  | .makeMap _ r => (match r with
    | Option.none => fun _ t m => newK m (.map [] 0) fun a m => put (.map a) t m
    | some _ => badOp)
  | .makeSlice ty l c => cMakeSlice P put ty l c
  | .slice ty x lo hi mx => cSlice P put ty x lo hi mx
  | .fieldAddr ty x f => cFieldAddr P put ty x f
  | .field ty x f => cField P put ty x f
  | .indexAddr ty x i => cIndexAddr P put ty x i
  | .index ty x i => cIndex P put ty x i
  | .lookup ty x k ok => cLookup P put ty x k ok
  | .mapUpdate ty x k v | .insert ty x k v => cMapUpdate P put ty x k v
  | .range ty x => cRange P put ty x
  | .next it str => cNext put it str
  | .entry it => cEntry put it
  | .extract x i => (let x := cOpd x; fun _ t m => (x t).tupleK fun l => lnth i l fun v => put v t m)
  | .call c =>
    (match c.callee with
    | .builtin b => cBuiltin P put b c.args.toList c.argTypes.toList
    | .value f => cCall put f (c.args.toList.map cOpd)
    | .invoke _ _ => badOp)
  | _ => badOp
noncomputable def cOper (ops : Array Oper) (o : Oper) : OpF :=
  match o.op.operands.all okOpd with
  | true =>
    (let f := cOp P n o.dst o.op
     match o.guard with
     | Option.none => f
     | some (j, want) => (let put := putd n o.dst
       match (ops[j]?).bind (·.dst) with
       | some d => (match Nat.blt d n with
         | true => (let g := path d
           fun call t m => (match Tr.get undef g t with
             | .bool b => (match b == want with | true => f call t m | false => put undef t m)
             | .tuple _ => put undef t m
             | _ => .bad))
         | false => badOp)
       | Option.none => fun _ t m => put undef t m))
  | false => badOp
abbrev CodeF := CallF → Aux → Tr RV → Hp → Out
noncomputable def Aux.push (x : Aux) (d : DF) : Aux := match x with | ⟨ds, ro⟩ => ⟨d :: ds, ro⟩
noncomputable def OR.go (r : OR) (x : Aux) (k : Aux → Tr RV → Hp → Out) : Out :=
  OR.rec (motive := fun _ => Out) .bad (fun t m => k x t m) (fun d t m => k (x.push d) t m) r
noncomputable def cSeq (ops : Array Oper) : List Oper → CodeF
  | [] => fun _ x t m => .norm x t m
  | o :: os => (let f := cOper P n ops o; let g := cSeq ops os; fun call x t m => (f call t m).go x (g call))
inductive Ev where
  | pure
  | load (a : Pos)
  | other
  | wr (a : Pos)
  | all
noncomputable def loud : Op → Bool
  | .move _ | .assign _ | .pick .. | .alloc _ | .box .. | .build .. | .buildSlice .. | .nilCheck _ | .binOp .. | .unOp .. | .makeInterface _ _ | .makeFunc .. | .makeMap .. | .makeSlice ..
  | .slice .. | .fieldAddr .. | .field .. | .indexAddr .. | .index .. | .extract .. => false
  | .convert _ _ _ => false
  | _ => true
noncomputable def watch (m m' : Hp) : Ev := match Pos.lt m'.wm m.nx with | true => .all | false => .other
noncomputable def evOf (op : Op) : Tr RV → Hp → Hp → Ev :=
  match op with
  | .load _ x => (let x := cOpd x; fun t m m' => (match x t with | .ptr a _ => .load a | _ => watch m m'))
  | .store _ x _ => (let x := cOpd x; fun t m m' => (match x t with | .ptr a _ => .wr a | _ => watch m m'))
  | .call c => (match c.callee, c.args.toList with
    | .builtin .append, x :: _ => (let x := cOpd x; fun t m m' => (match x t with | .slice a _ _ _ _ => .wr a | _ => watch m m'))
    | _, _ => fun _ m m' => watch m m')
  | _ => fun _ m m' => watch m m'
noncomputable def clash (a b : Ev) : Bool :=
  match a, b with
  | .pure, _ | _, .pure => false
  | .load _, .load _ | .load _, .other | .other, .load _ | .other, .other => false
  | .load a, .wr b | .wr a, .load b => Pos.beq a b
  | _, _ => true
noncomputable def masks (ops : List Oper) : List Nat → List Nat
  | acc => (match ops with
    | [] => acc
    | o :: os => masks os (acc ++ [o.after.toList.foldl (fun s e => if Region.binds .any e then s ||| 2 ^ e.on ||| acc.getD e.on 0 else s) 0]))
noncomputable def edgesOk (ops : List Oper) : Bool := ops.zipIdx.all fun p => p.1.after.all fun e => !Region.binds .any e || Nat.blt e.on p.2
noncomputable def pairsOf (ops : Array Oper) : Option (List (Nat × Nat)) :=
  let l := ops.toList.zipIdx
  let ms := masks ops.toList []
  let all := l.flatMap fun p => (l.filter fun q => Nat.blt q.2 p.2 && !Nat.testBit (ms.getD p.2 0) q.2).map fun q => (q, p)
  if edgesOk ops.toList && all.all (fun r => r.1.1.apart ops r.2.1) && Region.noSelect ops then some ((all.filter fun r => loud r.1.1.op && loud r.2.1.op).map fun r => (r.1.2, r.2.2)) else Option.none
noncomputable def evAt (i : Nat) (l : List Ev) : Ev := Nat.rec (motive := fun _ => List Ev → Ev) (fun l => List.rec (motive := fun _ => Ev) .all (fun x _ _ => x) l)
    (fun _ ih l => List.rec (motive := fun _ => Ev) .all (fun _ r _ => ih r) l) i l
noncomputable def noClash (ps : List (Nat × Nat)) (l : List Ev) : Bool :=
  List.rec (motive := fun _ => Bool) true (fun p _ ih => match clash (evAt p.1 l) (evAt p.2 l) with | true => false | false => ih) ps
noncomputable def cDraw (ops : Array Oper) (ps : List (Nat × Nat)) : List Oper → CallF → Aux → List Ev → Tr RV → Hp → Out
  | [] => fun _ x es t m => (match noClash ps es.reverse with | true => .norm x t m | false => .bad)
  | o :: os =>
    (let f := cOper P n ops o; let g := cDraw ops ps os
     match loud o.op with
     | false => fun call x es t m => OR.rec (motive := fun _ => Out) .bad (fun t m => g call x (.pure :: es) t m) (fun _ _ _ => .bad) (f call t m)
     | true => (let ev := evOf o.op
       fun call x es t m => match m with
         | ⟨h, nx, wm⟩ => OR.rec (motive := fun _ => Out) .bad (fun t' m' => g call x (ev t ⟨h, nx, nx⟩ m' :: es) t' (match m' with | ⟨h', nx', wm'⟩ => ⟨h', nx', Pos.min wm wm'⟩)) (fun _ _ _ => .bad) (f call t ⟨h, nx, nx⟩)))
noncomputable def Out.then (r : Out) (k : Aux → Tr RV → Hp → Out) : Out :=
  Out.rec (motive := fun _ => Out) .bad k (fun id x t m => .exit id x t m) (fun x t m => .ret x t m) r
noncomputable def cLoop (body : CodeF) (call : CallF) : Aux → Tr RV → Hp → Out :=
  Nat.rec (motive := fun _ => Aux → Tr RV → Hp → Out) (fun _ _ _ => .bad)
    (fun _ ih x t m => Out.rec (motive := fun _ => Out) .bad ih (fun id x t m => .exit id x t m) (fun x t m => .ret x t m) (body call x t m)) 1000000
noncomputable def dsts : Code → List Nat
  | .region _ ops _ => ops.toList.filterMap (·.dst)
  | .seq a b => dsts a ++ dsts b
  | .cond _ a b => dsts a ++ dsts b
  | .block _ b => dsts b
  | .loop b => dsts b
  | _ => []
noncomputable def plainC : Code → Bool
  | .skip | .label _ | .region .. | .exit _ | .ret => true
  | .seq a b => plainC a && plainC b
  | .cond _ a b => plainC a && plainC b
  | .block _ b => plainC b
  | .loop b => plainC b
  | _ => false
noncomputable def wipe (l : List Pos) (t : Tr RV) : Tr RV := List.rec (motive := fun _ => Tr RV → Tr RV) (fun t => t) (fun p _ ih t => ih (Tr.set undef p .none t)) l t
noncomputable def mapLoop? : Code → Option (Operand × Tmp × Tmp × Nat × List Nat)
  | .seq (.region _ (.mk [⟨some d0, .next (.tmp it) false, _, _, _, Option.none⟩, ⟨some d1, .extract (.tmp d0') 0, _, _, _, Option.none⟩]) false) (.seq (.cond (.tmp d1') .skip (.exit id)) rest) =>
    if (Nat.beq d0 d0' && Nat.beq d1 d1' && !Nat.beq d0 d1 && !(d0 :: d1 :: dsts rest).contains it && plainC rest) = true then some (.tmp it, d0, d1, id, dsts rest) else Option.none
  | _ => Option.none
noncomputable def rounds (body : CodeF) (p0 p1 : Pos) (call : CallF) (x : Aux) (b a : Pos) (clock : Nat) (h : Tr RO) (nx : Pos) (t : Tr RV) (k : Out) : List ME → Out
  | [] => k
  | e :: es =>
    Out.rec (motive := fun _ => Out) .bad
      (fun x' _ m' => (match x'.ds, m' with
        | [], ⟨_, _, wm⟩ => (match Pos.lt wm nx with | true => .bad | false => rounds body p0 p1 call x b a clock h nx t k es)
        | _, _ => .bad))
      (fun _ _ _ _ => .bad) (fun _ _ _ => .bad)
      (body call ⟨[], x.ro⟩ (Tr.set undef p1 (.bool true) (Tr.set undef p0 (.tuple [.bool true, e.key, e.val]) t)) ⟨Tr.set .dead b (.mapAt a e.born clock) h, nx, nx⟩)
noncomputable def left (seen : List Nat) (since : Nat) : List ME → (List ME → Out) → Out
  | [], c => c []
  | e :: es, c => (match Nat.blt e.born since with
    | true => (match inL e.born seen with | true => left seen since es c | false => left seen since es fun l => c (e :: l))
    | false => .bad)
noncomputable def cMapLoop (plain body : CodeF) (it : Operand) (d0 d1 : Tmp) (id : Nat) (ws : List Pos) : CodeF :=
  let it := cOpd it; let p0 := path d0; let p1 := path d1
  fun call x t m => match it t, m, x.ds with
    | .ptr b 0, ⟨h, nx, wm⟩, [] => (match Tr.get .dead b h with
      | .mapIter (some a) since seen last => (match Tr.get .dead a h with
        | .map es clock => (match Nat.beq clock last && Nat.beq clock since with
          | true => left seen since es fun l => (match l with
            | _ :: _ :: _ => (let t := wipe ws t
                rounds body p0 p1 call x b a clock h nx t (.exit id x t ⟨Tr.set .dead b .dead h, nx, Pos.min b wm⟩) l)
            | _ => plain call x t m)
          | false => .bad)
        | _ => .bad)
      | _ => plain call x t m)
    | _, _, _ => plain call x t m
noncomputable def cCode : Code → CodeF
  | .skip => fun _ x t m => .norm x t m
  | .label _ => fun _ x t m => .norm x t m
  | .region _ ops draw => (match draw with
    | false => cSeq P n ops ops.toList
    | true => (match pairsOf ops with
      | some ps => (let g := cDraw P n ops ps ops.toList; fun call x t m => g call x [] t m)
      | Option.none => fun _ _ _ _ => .bad))
  | .seq a b => (let a := cCode a; let b := cCode b; fun call x t m => (a call x t m).then (b call))
  | .cond c a b => (let c := cOpd c; let a := cCode a; let b := cCode b
    fun call x t m => (match c t with | .bool v => Bool.rec (motive := fun _ => Out) (b call x t m) (a call x t m) v | _ => .bad))
  | .block id b => (let b := cCode b
    fun call x t m => Out.rec (motive := fun _ => Out) .bad (fun x t m => .norm x t m) (fun i x t m => match Nat.beq i id with | true => .norm x t m | false => .exit i x t m) (fun x t m => .ret x t m) (b call x t m))
  | .loop (.seq r (.seq c rest)) => (let plain := cLoop (cCode (.seq r (.seq c rest)))
    match mapLoop? (.seq r (.seq c rest)) with
    | some (it, d0, d1, id, ws) => (match Nat.blt d0 n && Nat.blt d1 n with
      | true => cMapLoop plain (cCode rest) it d0 d1 id ((d0 :: d1 :: ws).map path)
      | false => plain)
    | Option.none => plain)
  | .loop b => cLoop (cCode b)
  | .exit id => fun _ x t m => .exit id x t m
  | .ret => fun _ x t m => .ret x t m
  | _ => fun _ _ _ _ => .bad
noncomputable def initT : List RV → Pos → Tr RV → Tr RV
  | [], _, t => t
  | v :: r, p, t => initT r p.succ (Tr.set undef p v t)
noncomputable def cResult (r : ResultVar) : Tr RV → Hp → (RV → CR) → CR :=
  match r with
  | .tmp i => (let x := path i; fun t _ k => k (Tr.get undef x t))
  | .cell i ty => (let x := path i; let ag := aggT P ty; let sz := size P ty
    if validT P ty = true then fun t m k => (match loadO ag sz m (Tr.get undef x t) (fun v => .ok (.n .e v .e) m) with | .ok (.n _ v _) _ => k v | _ => .bad) else fun _ _ _ => .bad)
noncomputable def cResults : List ResultVar → Tr RV → Hp → (List RV → CR) → CR
  | [] => fun _ _ k => k []
  | r :: rs => (let f := cResult P r; let g := cResults rs; fun t m k => f t m fun v => g t m fun vs => k (v :: vs))
noncomputable def finR : List RV → RV := fun l => match l with | [v] => v | l => .tuple l
end
section
variable (P : Program)
abbrev FunF := CallF → List RV → Hp → CR
noncomputable def badF : FunF := fun _ _ _ => .bad
noncomputable def cFunc (fn : Func) : FunF :=
  match fn.name == "runtime.NumGoroutine" with
  | true => badF
  | false => (match fn.body with
    | Option.none => badF
    | some c =>
      (let n := fn.ntmps
       let c := cCode P n c; let rs := cResults P fn.results.toList
       let fin : Aux → Tr RV → Hp → CR := fun x t m => (match x with | ⟨[], _⟩ => rs t m fun l => .ok (finR l) m | _ => .bad)
       fun call args m => (match Nat.ble (llen args) n with
         | true => Out.rec (motive := fun _ => CR) .bad fin (fun _ _ _ _ => .bad) fin (c call ⟨[], Option.none⟩ (initT args .h .e) m)
         | false => .bad)))
noncomputable def callF (fs : Tr FunF) (k : Nat) : CallF :=
  Nat.rec (motive := fun _ => CallF) (fun _ _ _ => .bad)
    (fun _ ih g args m => match g with | .fn f => Tr.get badF (path f) fs ih args m | .yield _ => .bad) k
noncomputable def mkTr : List FunF → Pos → Tr FunF → Tr FunF
  | [], _, t => t
  | v :: r, p, t => mkTr r p.succ (Tr.set badF p v t)
noncomputable def table : Tr FunF := mkTr (P.funcs.toList.map (cFunc P)) .h .e
noncomputable def start : Hp := ⟨.e, .h, .h⟩
noncomputable def runB (f : FuncId) : Option Bool :=
  match callF (table P) 1000 (.fn f) [] start with
  | .ok (.bool b) _ => some b
  | _ => Option.none
end
end Go.Ref
end
section
namespace Go.Ref
open Go
theorem Pos.num_pos (p : Pos) : 0 < p.num := by
  induction p with
  | h => exact Nat.one_pos
  | o p ih => show 0 < 2 * p.num; omega
  | i p ih => show 0 < 2 * p.num + 1; omega
theorem Pos.num_o (p : Pos) : (Pos.o p).num = 2 * p.num := rfl
theorem Pos.num_i (p : Pos) : (Pos.i p).num = 2 * p.num + 1 := rfl
theorem Pos.num_h : Pos.h.num = 1 := rfl
theorem Pos.num_succ (p : Pos) : p.succ.num = p.num + 1 := by
  induction p with
  | h => rfl
  | o p ih => rfl
  | i p ih =>
    show 2 * p.succ.num = 2 * p.num + 1 + 1
    rw [ih]; omega
theorem Pos.num_inj : ∀ {p q : Pos}, p.num = q.num → p = q := by
  intro p
  induction p with
  | h =>
    intro q h
    cases q with
    | h => rfl
    | o q => have := q.num_pos; simp only [Pos.num_h, Pos.num_o] at h; omega
    | i q => have := q.num_pos; simp only [Pos.num_h, Pos.num_i] at h; omega
  | o p ih =>
    intro q h
    cases q with
    | h => have := p.num_pos; simp only [Pos.num_h, Pos.num_o] at h; omega
    | o q => simp only [Pos.num_o] at h; rw [ih (q := q) (by omega)]
    | i q => simp only [Pos.num_o, Pos.num_i] at h; omega
  | i p ih =>
    intro q h
    cases q with
    | h => have := p.num_pos; simp only [Pos.num_h, Pos.num_i] at h; omega
    | o q => simp only [Pos.num_o, Pos.num_i] at h; omega
    | i q => simp only [Pos.num_i] at h; rw [ih (q := q) (by omega)]
def Cmp.says (c : Cmp) (a b : Nat) : Prop := match c with | .lt => a < b | .eq => a = b | .gt => b < a
theorem Pos.cmpC_spec (p : Pos) : ∀ (c : Cmp) (q : Pos), (p.cmpC c q).says (2 * p.num + (match c with | .lt => 0 | .eq => 0 | .gt => 1)) (2 * q.num + (match c with | .lt => 1 | .eq => 0 | .gt => 0)) := by
  induction p with
  | h =>
    intro c q
    cases q with
    | h => show c.says _ _; cases c <;> simp [Cmp.says, Pos.num_h]
    | o q => have := q.num_pos; show Cmp.lt.says _ _; cases c <;> simp only [Cmp.says, Pos.num_h, Pos.num_o] <;> omega
    | i q => have := q.num_pos; show Cmp.lt.says _ _; cases c <;> simp only [Cmp.says, Pos.num_h, Pos.num_i] <;> omega
  | o p ih =>
    intro c q
    cases q with
    | h => have := p.num_pos; show Cmp.gt.says _ _; cases c <;> simp only [Cmp.says, Pos.num_h, Pos.num_o] <;> omega
    | o q => have := ih c q; show (p.cmpC c q).says _ _; cases hc : p.cmpC c q <;> cases c <;> simp only [hc, Cmp.says, Pos.num_o] at this ⊢ <;> omega
    | i q => have := ih .lt q; show (p.cmpC .lt q).says _ _; cases hc : p.cmpC .lt q <;> cases c <;> simp only [hc, Cmp.says, Pos.num_o, Pos.num_i] at this ⊢ <;> omega
  | i p ih =>
    intro c q
    cases q with
    | h => have := p.num_pos; show Cmp.gt.says _ _; cases c <;> simp only [Cmp.says, Pos.num_h, Pos.num_i] <;> omega
    | o q => have := ih .gt q; show (p.cmpC .gt q).says _ _; cases hc : p.cmpC .gt q <;> cases c <;> simp only [hc, Cmp.says, Pos.num_o, Pos.num_i] at this ⊢ <;> omega
    | i q => have := ih c q; show (p.cmpC c q).says _ _; cases hc : p.cmpC c q <;> cases c <;> simp only [hc, Cmp.says, Pos.num_i] at this ⊢ <;> omega
theorem Pos.lt_spec (p q : Pos) : p.lt q = decide (p.num < q.num) := by
  have h := p.cmpC_spec .eq q
  unfold Pos.lt
  cases hc : p.cmpC .eq q <;> simp only [hc, Cmp.says] at h
  · show true = _; rw [eq_comm, decide_eq_true_eq]; omega
  · show false = _; rw [eq_comm, decide_eq_false_iff_not]; omega
  · show false = _; rw [eq_comm, decide_eq_false_iff_not]; omega
theorem Pos.beq_spec (p q : Pos) : p.beq q = true ↔ p = q := by
  have h := p.cmpC_spec .eq q
  unfold Pos.beq
  cases hc : p.cmpC .eq q <;> simp only [hc, Cmp.says] at h
  · show false = true ↔ _; constructor
    · intro h; cases h
    · rintro rfl; omega
  · show true = true ↔ _; exact ⟨fun _ => Pos.num_inj (by omega), fun _ => rfl⟩
  · show false = true ↔ _; constructor
    · intro h; cases h
    · rintro rfl; omega
theorem Pos.num_min (p q : Pos) : (Pos.min p q).num = Min.min p.num q.num := by
  unfold Pos.min
  rw [Pos.lt_spec]
  by_cases h : p.num < q.num
  · simp only [h, decide_true]; show p.num = _; omega
  · simp only [h, decide_false]; show q.num = _; omega
section
variable {α : Type} {d : α}
theorem Tr.get_e (p : Pos) : Tr.get d p .e = d := by cases p <;> rfl
theorem Tr.get_o (p : Pos) (l : Tr α) (x : α) (r : Tr α) : Tr.get d (.o p) (.n l x r) = Tr.get d p l := rfl
theorem Tr.get_i (p : Pos) (l : Tr α) (x : α) (r : Tr α) : Tr.get d (.i p) (.n l x r) = Tr.get d p r := rfl
theorem Tr.set_n (p : Pos) (v : α) (t : Tr α) : ∃ a b c, Tr.set d p v t = .n a b c := by
  induction p generalizing t with
  | h => cases t <;> exact ⟨_, _, _, rfl⟩
  | o p ih =>
    cases t with
    | e => exact ⟨_, _, _, rfl⟩
    | n l x r => obtain ⟨a, b, c, h⟩ := ih l; exact ⟨.n a b c, x, r, by show (Tr.rec (motive := fun _ => Tr α) .e (fun a b c _ _ => .n (.n a b c) x r) (Tr.set d p v l)) = _; rw [h]⟩
  | i p ih =>
    cases t with
    | e => exact ⟨_, _, _, rfl⟩
    | n l x r => obtain ⟨a, b, c, h⟩ := ih r; exact ⟨l, x, .n a b c, by show (Tr.rec (motive := fun _ => Tr α) .e (fun a b c _ _ => .n l x (.n a b c)) (Tr.set d p v r)) = _; rw [h]⟩
theorem Tr.set_h_e (v : α) : Tr.set d .h v .e = .n .e v .e := rfl
theorem Tr.set_o_e (p : Pos) (v : α) : Tr.set d (.o p) v .e = .n (Tr.set d p v .e) d .e := rfl
theorem Tr.set_i_e (p : Pos) (v : α) : Tr.set d (.i p) v .e = .n .e d (Tr.set d p v .e) := rfl
theorem Tr.set_o_n (p : Pos) (v : α) (l : Tr α) (x : α) (r : Tr α) : Tr.set d (.o p) v (.n l x r) = .n (Tr.set d p v l) x r := by
  obtain ⟨a, b, c, h⟩ := Tr.set_n (d := d) p v l
  show (Tr.rec (motive := fun _ => Tr α) .e (fun a b c _ _ => .n (.n a b c) x r) (Tr.set d p v l)) = _
  rw [h]
theorem Tr.set_i_n (p : Pos) (v : α) (l : Tr α) (x : α) (r : Tr α) : Tr.set d (.i p) v (.n l x r) = .n l x (Tr.set d p v r) := by
  obtain ⟨a, b, c, h⟩ := Tr.set_n (d := d) p v r
  show (Tr.rec (motive := fun _ => Tr α) .e (fun a b c _ _ => .n l x (.n a b c)) (Tr.set d p v r)) = _
  rw [h]
theorem Tr.get_set (p : Pos) (v : α) (t : Tr α) : Tr.get d p (Tr.set d p v t) = v := by
  induction p generalizing t with
  | h => cases t <;> rfl
  | o p ih => cases t with
    | e => rw [Tr.set_o_e, Tr.get_o, ih]
    | n l x r => rw [Tr.set_o_n, Tr.get_o, ih]
  | i p ih => cases t with
    | e => rw [Tr.set_i_e, Tr.get_i, ih]
    | n l x r => rw [Tr.set_i_n, Tr.get_i, ih]
theorem Tr.get_set_ne {p q : Pos} (h : q ≠ p) (v : α) (t : Tr α) : Tr.get d q (Tr.set d p v t) = Tr.get d q t := by
  induction p generalizing q t with
  | h =>
    cases t with
    | e => cases q with
      | h => exact absurd rfl h
      | o q => rw [Tr.set_h_e, Tr.get_o, Tr.get_e, Tr.get_e]
      | i q => rw [Tr.set_h_e, Tr.get_i, Tr.get_e, Tr.get_e]
    | n l x r => cases q with
      | h => exact absurd rfl h
      | o q => rfl
      | i q => rfl
  | o p ih =>
    cases t with
    | e => rw [Tr.set_o_e]; cases q with
      | h => rfl
      | o q => rw [Tr.get_o, ih (fun e => h (by rw [e])), Tr.get_e, Tr.get_e]
      | i q => rw [Tr.get_i, Tr.get_e, Tr.get_e]
    | n l x r => rw [Tr.set_o_n]; cases q with
      | h => rfl
      | o q => rw [Tr.get_o, Tr.get_o, ih (fun e => h (by rw [e]))]
      | i q => rfl
  | i p ih =>
    cases t with
    | e => rw [Tr.set_i_e]; cases q with
      | h => rfl
      | i q => rw [Tr.get_i, ih (fun e => h (by rw [e])), Tr.get_e, Tr.get_e]
      | o q => rw [Tr.get_o, Tr.get_e, Tr.get_e]
    | n l x r => rw [Tr.set_i_n]; cases q with
      | h => rfl
      | i q => rw [Tr.get_i, Tr.get_i, ih (fun e => h (by rw [e]))]
      | o q => rfl
end
theorem num_path (n : Nat) : (path n).num = n + 1 := by
  induction n with
  | zero => rfl
  | succ n ih => show (path n).succ.num = _; rw [Pos.num_succ, ih]
theorem path_inj {i j : Nat} (h : path i = path j) : i = j := by
  have := congrArg Pos.num h
  rw [num_path, num_path] at this
  omega
structure Blk where
  r : Nat
  sh : Nat
  N : Nat
  val : Value := .nilFunc
abbrev Rho := Pos → Option Blk
mutual
def VR (ρ : Rho) : RV → Value → Prop
  | .bool b, v => v = .bool b
  | .int k n, v => v = .int k n
  | .str s, v => ∃ x : ByteArray, v = .string x ∧ x.data.toList.map UInt8.toNat = s
  | .ptr a o, v => ∃ b, ρ a = some b ∧ v = .pointer (some ⟨b.r, b.sh + o, Option.none⟩)
  | .nilPtr, v => v = .pointer Option.none
  | .slice a o l c u, v => ∃ b off c', ρ a = some b ∧ v = .slice (some ⟨b.r, off, Option.none⟩) l c' ∧ l ≤ c ∧ c ≤ c' ∧ (c' = 0 ∨ off = b.sh + o) ∧
      (match u with | Option.none => c' = c | some z => off + c' * z ≤ b.N)
  | .nilSlice, v => v = .slice Option.none 0 0
  | .map a, v => ∃ b, ρ a = some b ∧ v = .map (some b.r)
  | .nilMap, v => v = .map Option.none
  | .func fn x y, v => ∃ fa ca : Array Value, v = .func fn fa ca ∧ VRs ρ x fa.toList ∧ VRs ρ y ca.toList
  | .yield a, v => ∃ b, ρ a = some b ∧ v = .func (.yield b.r) #[] #[]
  | .nilFunc, v => v = .nilFunc
  | .iface t x, v => ∃ y, v = .iface t y ∧ VR ρ x y
  | .nilIface, v => v = .nilIface
  | .agg l, v => ∃ cs : Array Value, v = .agg cs ∧ VRs ρ l cs.toList
  | .tuple l, v => ∃ cs : Array Value, v = .tuple cs ∧ VRs ρ l cs.toList
  | .symV a, v => ∃ b, ρ a = some b ∧ v = b.val ∧ b.val.oneCell' = true
  | .symI a ne, v => ∃ b n, ρ a = some b ∧ b.val = .int .i64 n ∧ v = .int .i64 n ∧ n ∉ ne
  | .symL a j ne, v => ∃ b bj A n c, ρ a = some b ∧ ρ j = some bj ∧ b.val = .slice A n c ∧ v = .slice A n c ∧ bj.val = .int .i64 (n : Int) ∧ (n : Int) ∉ ne
  | .none, _ => True
def VRs (ρ : Rho) : List RV → List Value → Prop
  | [], l => l = []
  | x :: r, l => ∃ v l', l = v :: l' ∧ VR ρ x v ∧ VRs ρ r l'
end
def Rho.sub (ρ ρ' : Rho) : Prop := ∀ a b, ρ a = some b → ρ' a = some b
theorem Rho.sub.refl (ρ : Rho) : ρ.sub ρ := fun _ _ h => h
theorem Rho.sub.trans {a b c : Rho} (h : a.sub b) (k : b.sub c) : a.sub c := fun x y hx => k x y (h x y hx)
mutual
theorem VR.mono {ρ ρ' : Rho} (h : ρ.sub ρ') : ∀ (x : RV) (v : Value), VR ρ x v → VR ρ' x v
  | .bool b, v, k => by simpa only [VR] using k
  | .int k n, v, h => by simpa only [VR] using h
  | .str s, v, k => by simpa only [VR] using k
  | .ptr a o, v, k => by simp only [VR] at k ⊢; obtain ⟨b, hb, hv⟩ := k; exact ⟨b, h _ _ hb, hv⟩
  | .nilPtr, v, k => by simpa only [VR] using k
  | .slice a o l c u, v, k => by simp only [VR] at k ⊢; obtain ⟨b, off, c', hb, hv⟩ := k; exact ⟨b, off, c', h _ _ hb, hv⟩
  | .nilSlice, v, k => by simpa only [VR] using k
  | .map a, v, k => by simp only [VR] at k ⊢; obtain ⟨b, hb, hv⟩ := k; exact ⟨b, h _ _ hb, hv⟩
  | .nilMap, v, k => by simpa only [VR] using k
  | .func fn x y, v, k => by simp only [VR] at k ⊢; obtain ⟨fa, ca, hv, h1, h2⟩ := k; exact ⟨fa, ca, hv, VRs.mono h x _ h1, VRs.mono h y _ h2⟩
  | .yield a, v, k => by simp only [VR] at k ⊢; obtain ⟨b, hb, hv⟩ := k; exact ⟨b, h _ _ hb, hv⟩
  | .nilFunc, v, k => by simpa only [VR] using k
  | .iface t x, v, k => by simp only [VR] at k ⊢; obtain ⟨y, hv, h1⟩ := k; exact ⟨y, hv, VR.mono h x y h1⟩
  | .nilIface, v, k => by simpa only [VR] using k
  | .agg l, v, k => by simp only [VR] at k ⊢; obtain ⟨cs, hv, h1⟩ := k; exact ⟨cs, hv, VRs.mono h l _ h1⟩
  | .tuple l, v, k => by simp only [VR] at k ⊢; obtain ⟨cs, hv, h1⟩ := k; exact ⟨cs, hv, VRs.mono h l _ h1⟩
  | .symV a, v, k => by simp only [VR] at k ⊢; obtain ⟨b, hb, h1⟩ := k; exact ⟨b, h _ _ hb, h1⟩
  | .symI a ne, v, k => by simp only [VR] at k ⊢; obtain ⟨b, n, hb, h1⟩ := k; exact ⟨b, n, h _ _ hb, h1⟩
  | .symL a j ne, v, k => by simp only [VR] at k ⊢; obtain ⟨b, bj, A, n, c, hb, hj, h1⟩ := k; exact ⟨b, bj, A, n, c, h _ _ hb, h _ _ hj, h1⟩
  | .none, _, _ => by simp only [VR]
theorem VRs.mono {ρ ρ' : Rho} (h : ρ.sub ρ') : ∀ (x : List RV) (v : List Value), VRs ρ x v → VRs ρ' x v
  | [], v, k => by simpa only [VRs] using k
  | x :: r, l, k => by
    simp only [VRs] at k ⊢
    obtain ⟨v, l', hl, h1, h2⟩ := k
    exact ⟨v, l', hl, VR.mono h x v h1, VRs.mono h r l' h2⟩
end
theorem VRs.nil {ρ : Rho} : VRs ρ [] [] := by simp only [VRs]
theorem VRs.cons {ρ : Rho} {x : RV} {v : Value} {xs : List RV} {vs : List Value} (h : VR ρ x v) (k : VRs ρ xs vs) : VRs ρ (x :: xs) (v :: vs) := by
  simp only [VRs]; exact ⟨v, vs, rfl, h, k⟩
theorem VRs.cons_iff {ρ : Rho} {x : RV} {v : Value} {xs : List RV} {vs : List Value} : VRs ρ (x :: xs) (v :: vs) ↔ VR ρ x v ∧ VRs ρ xs vs := by
  simp only [VRs]
  constructor
  · rintro ⟨v', l', he, h, k⟩; cases he; exact ⟨h, k⟩
  · rintro ⟨h, k⟩; exact ⟨v, vs, rfl, h, k⟩
theorem VRs.length {ρ : Rho} : ∀ {xs : List RV} {vs : List Value}, VRs ρ xs vs → xs.length = vs.length
  | [], vs, h => by simp only [VRs] at h; subst h; rfl
  | x :: xs, vs, h => by simp only [VRs] at h; obtain ⟨v, l', rfl, _, k⟩ := h; simp [VRs.length k]
theorem VRs.append {ρ : Rho} : ∀ {xs : List RV} {vs : List Value} {ys : List RV} {us : List Value}, VRs ρ xs vs → VRs ρ ys us → VRs ρ (xs ++ ys) (vs ++ us)
  | [], vs, ys, us, h, k => by simp only [VRs] at h; subst h; simpa using k
  | x :: xs, vs, ys, us, h, k => by
    simp only [VRs] at h; obtain ⟨v, l', rfl, h1, h2⟩ := h
    exact VRs.cons h1 (VRs.append h2 k)
theorem VRs.get {ρ : Rho} : ∀ {xs : List RV} {vs : List Value}, VRs ρ xs vs → ∀ (i : Nat) (x : RV), xs[i]? = some x → ∃ v, vs[i]? = some v ∧ VR ρ x v
  | [], vs, h, i, x, hx => by simp at hx
  | y :: xs, vs, h, i, x, hx => by
    simp only [VRs] at h; obtain ⟨v, l', rfl, h1, h2⟩ := h
    cases i with
    | zero => simp at hx; subst hx; exact ⟨v, by simp, h1⟩
    | succ i => simp at hx; obtain ⟨u, hu, hr⟩ := VRs.get h2 i x hx; exact ⟨u, by simpa using hu, hr⟩
theorem VRs.drop {ρ : Rho} {xs : List RV} {vs : List Value} (h : VRs ρ xs vs) (n : Nat) : VRs ρ (xs.drop n) (vs.drop n) := by
  induction n generalizing xs vs with
  | zero => simpa using h
  | succ n ih =>
    cases xs with
    | nil => simp only [VRs] at h; subst h; simpa using VRs.nil
    | cons x xs => simp only [VRs] at h; obtain ⟨v, l', rfl, _, h2⟩ := h; simpa using ih h2
theorem VRs.take {ρ : Rho} {xs : List RV} {vs : List Value} (h : VRs ρ xs vs) (n : Nat) : VRs ρ (xs.take n) (vs.take n) := by
  induction n generalizing xs vs with
  | zero => simpa using VRs.nil
  | succ n ih =>
    cases xs with
    | nil => simp only [VRs] at h; subst h; simpa using VRs.nil
    | cons x xs => simp only [VRs] at h; obtain ⟨v, l', rfl, h1, h2⟩ := h; simpa using VRs.cons h1 (ih h2)
mutual
theorem VR_ofV (ρ : Rho) : ∀ v : Value, VR ρ (ofV v) v
  | .bool b => by simp only [ofV, VR]
  | .int k n => by simp only [ofV, VR]
  | .float k b => by simp only [ofV, VR]
  | .complex k a b => by simp only [ofV, VR]
  | .string s => by simp only [ofV, VR]; exact ⟨s, rfl, rfl⟩
  | .pointer Option.none => by simp only [ofV, VR]
  | .pointer (some a) => by simp only [ofV, VR]
  | .slice Option.none l c => by
    cases l <;> cases c <;> simp only [ofV, VR]
  | .slice (some a) l c => by simp only [ofV, VR]
  | .map Option.none => by simp only [ofV, VR]
  | .map (some a) => by simp only [ofV, VR]
  | .chan r => by simp only [ofV, VR]
  | .func fn (.mk a) (.mk b) => by
    cases fn with
    | func f =>
      cases a with
      | nil => cases b with
        | nil => simp only [ofV, VR]; exact ⟨_, _, rfl, VRs.nil, VRs.nil⟩
        | cons => simp only [ofV, VR]
      | cons => simp only [ofV, VR]
    | _ => simp only [ofV, VR]
  | .nilFunc => by simp only [ofV, VR]
  | .iface t v => by simp only [ofV, VR]; exact ⟨v, rfl, VR_ofV ρ v⟩
  | .nilIface => by simp only [ofV, VR]
  | .agg (.mk cs) => by simp only [ofV, VR]; exact ⟨_, rfl, VRs_ofVs ρ cs⟩
  | .tuple (.mk cs) => by simp only [ofV, VR]; exact ⟨_, rfl, VRs_ofVs ρ cs⟩
theorem VRs_ofVs (ρ : Rho) : ∀ l : List Value, VRs ρ (ofVs l) l
  | [] => by simp only [ofVs]; exact VRs.nil
  | v :: r => by simp only [ofVs]; exact VRs.cons (VR_ofV ρ v) (VRs_ofVs ρ r)
end
def MR (ρ : Rho) (e : ME) (e' : MapEntry) : Prop := VR ρ e.key e'.key ∧ VR ρ e.val e'.val ∧ e.born = e'.born
def MRs (ρ : Rho) : List ME → List MapEntry → Prop
  | [], l => l = []
  | e :: es, l => ∃ e' l', l = e' :: l' ∧ MR ρ e e' ∧ MRs ρ es l'
theorem MR.mono {ρ ρ' : Rho} (h : ρ.sub ρ') {e : ME} {e' : MapEntry} (k : MR ρ e e') : MR ρ' e e' := ⟨VR.mono h _ _ k.1, VR.mono h _ _ k.2.1, k.2.2⟩
theorem MRs.mono {ρ ρ' : Rho} (h : ρ.sub ρ') : ∀ {l : List ME} {l' : List MapEntry}, MRs ρ l l' → MRs ρ' l l'
  | [], _, k => k
  | _ :: _, _, ⟨e', l', he, h1, h2⟩ => ⟨e', l', he, MR.mono h h1, MRs.mono h h2⟩
def ObjR (ρ : Rho) (o : RO) (b : Blk) (w : World) : Prop :=
  match o with
  | .dead => True
  | .ro cs => ∃ (c : Array Value) (el : TypeId) (fz : Nat × Nat), w.heap[b.r]? = some (.cells c el fz) ∧ c.size = b.N ∧ b.sh + cs.length ≤ b.N ∧ VRs ρ cs ((c.toList.drop b.sh).take cs.length)
  | .cells cs => ∃ (c : Array Value) (el : TypeId), w.heap[b.r]? = some (.cells c el) ∧ c.size = b.N ∧ b.sh + cs.length ≤ b.N ∧ VRs ρ cs ((c.toList.drop b.sh).take cs.length)
  | .map es clock => ∃ es' : Array MapEntry, w.heap[b.r]? = some (.map es' clock) ∧ MRs ρ es es'.toList
  | .mapIter m since seen stepped => ∃ m' : Option Nat, w.heap[b.r]? = some (.mapIter m' since seen.toArray stepped) ∧
      (match m with | Option.none => m' = Option.none | some a => ∃ b', ρ a = some b' ∧ m' = some b'.r) ∧ b.sh = 0
  | .mapAt a s stepped => ∃ (r since : Nat) (seen : Array Nat), w.heap[b.r]? = some (.mapIter (some r) since seen stepped) ∧ (∃ b', ρ a = some b' ∧ r = b'.r) ∧ b.sh = 0 ∧ seen.back? = some s
  | _ => False
theorem ObjR.mono {ρ ρ' : Rho} (h : ρ.sub ρ') {o : RO} {b : Blk} {w w' : World} (hw : w'.heap[b.r]? = w.heap[b.r]?) (k : ObjR ρ o b w) : ObjR ρ' o b w' := by
  cases o with
  | dead => trivial
  | cells cs => obtain ⟨c, el, h1, h2, h3, h4⟩ := k; exact ⟨c, el, hw.trans h1, h2, h3, VRs.mono h _ _ h4⟩
  | ro cs => obtain ⟨c, el, fz, h1, h2, h3, h4⟩ := k; exact ⟨c, el, fz, hw.trans h1, h2, h3, VRs.mono h _ _ h4⟩
  | map es clock => obtain ⟨es', h1, h2⟩ := k; exact ⟨es', hw.trans h1, MRs.mono h h2⟩
  | mapIter m since seen stepped =>
    obtain ⟨m', h1, h2, h3⟩ := k
    refine ⟨m', hw.trans h1, ?_, h3⟩
    cases m with
    | none => exact h2
    | some a => obtain ⟨b', hb, he⟩ := h2; exact ⟨b', h _ _ hb, he⟩
  | mapAt a s stepped => obtain ⟨r, since, seen, h1, ⟨b', hb, he⟩, h3⟩ := k; exact ⟨r, since, seen, hw.trans h1, ⟨b', h _ _ hb, he⟩, h3⟩
  | loop => exact k.elim
  | deferred => exact k.elim
def RO.wr : RO → Prop
  | .dead => False
  | .ro _ => False
  | _ => True
theorem RO.wr.ne {o : RO} (h : o.wr) : o ≠ .dead := by rintro rfl; exact h
structure Sim (ρ : Rho) (m : Hp) (w : World) : Prop where
  lt : ∀ a b, ρ a = some b → a.num < m.nx.num
  rlt : ∀ a b, ρ a = some b → m.at a ≠ .dead → b.r < w.heap.size
  obj : ∀ a b, ρ a = some b → ObjR ρ (m.at a) b w
  inj : ∀ a b a' b', ρ a = some b → ρ a' = some b' → b.r = b'.r → (m.at a).wr → m.at a' ≠ .dead → a = a'
structure Ext (ρ : Rho) (m : Hp) (w : World) (ρ' : Rho) (m' : Hp) (w' : World) : Prop where
  sub : ρ.sub ρ'
  new : ∀ a b, ρ' a = some b → ρ a = Option.none → m.nx.num ≤ a.num ∧ (w.heap.size ≤ b.r ∨ ∃ a₀ b₀, ρ a₀ = some b₀ ∧ b₀.r = b.r ∧ (m.at a₀).wr ∧ m'.wm.num ≤ a₀.num)
  all : ∀ a, m.nx.num ≤ a.num → a.num < m'.nx.num → ∃ b, ρ' a = some b
  dead : ∀ a b, ρ a = some b → ¬ (m.at a).wr → m'.at a = m.at a
  rframe : ∀ a, a.num < m.nx.num → (ρ a = Option.none ∨ a.num < m'.wm.num) → m'.at a = m.at a
  nx : m.nx.num ≤ m'.nx.num
  wm : m'.wm.num ≤ m.wm.num
  size : w.heap.size ≤ w'.heap.size
  frame : ∀ r, r < w.heap.size → (∀ a b, ρ a = some b → b.r = r → (m.at a).wr → a.num < m'.wm.num) → w'.heap[r]? = w.heap[r]?
  os : w'.os = w.os
  tape : w'.tape = w.tape
  output : w'.output = w.output
theorem Ext.refl (ρ : Rho) (m : Hp) (w : World) : Ext ρ m w ρ m w :=
  ⟨.refl ρ, (fun a b h k => by rw [h] at k; cases k), (fun a h k => by omega), (fun _ _ _ _ => rfl), (fun _ _ _ => rfl), Nat.le_refl _, Nat.le_refl _, Nat.le_refl _, fun _ _ _ => rfl, rfl, rfl, rfl⟩
theorem Ext.trans {ρ₁ ρ₂ ρ₃ : Rho} {m₁ m₂ m₃ : Hp} {w₁ w₂ w₃ : World} (h : Ext ρ₁ m₁ w₁ ρ₂ m₂ w₂) (k : Ext ρ₂ m₂ w₂ ρ₃ m₃ w₃) : Ext ρ₁ m₁ w₁ ρ₃ m₃ w₃ where
  sub := h.sub.trans k.sub
  new a b h3 h1 := by
    cases h2 : ρ₂ a with
    | some b2 =>
      have := k.sub _ _ h2
      rw [h3] at this; cases this
      obtain ⟨hn, hr⟩ := h.new a b h2 h1
      refine ⟨hn, hr.imp id ?_⟩
      rintro ⟨a₀, b₀, p, q, l, r⟩
      exact ⟨a₀, b₀, p, q, l, Nat.le_trans k.wm r⟩
    | none =>
      obtain ⟨hn, hr⟩ := k.new a b h3 h2
      refine ⟨Nat.le_trans h.nx hn, ?_⟩
      rcases hr with hr | ⟨a₀, b₀, p, q, l, r⟩
      · exact .inl (Nat.le_trans h.size hr)
      · cases h1' : ρ₁ a₀ with
        | some b₁ =>
          have := h.sub _ _ h1'
          rw [p] at this; cases this
          exact .inr ⟨a₀, b₀, h1', q, (Classical.byContradiction fun e => e (h.dead _ _ h1' e ▸ l)), r⟩
        | none =>
          obtain ⟨_, hr'⟩ := h.new a₀ b₀ p h1'
          rcases hr' with hr' | ⟨a₁, b₁, p', q', l', r'⟩
          · exact .inl (q ▸ hr')
          · exact .inr ⟨a₁, b₁, p', q'.trans q, l', Nat.le_trans k.wm r'⟩
  all a h1 h3 := by
    by_cases h2 : a.num < m₂.nx.num
    · obtain ⟨b, hb⟩ := h.all a h1 h2
      exact ⟨b, k.sub _ _ hb⟩
    · exact k.all a (by omega) h3
  dead a b ha hd := by
    have h1 := h.dead a b ha hd
    rw [k.dead a b (h.sub _ _ ha) (by rw [h1]; exact hd), h1]
  rframe a h1 h2 := by
    have hwm := k.wm
    rw [k.rframe a (Nat.lt_of_lt_of_le h1 h.nx) ?_, h.rframe a h1 (h2.imp id fun h => by omega)]
    rcases h2 with h2 | h2
    · cases h3 : ρ₂ a with
      | none => exact .inl rfl
      | some b => have := (h.new a b h3 h2).1; omega
    · exact .inr h2
  nx := Nat.le_trans h.nx k.nx
  wm := Nat.le_trans k.wm h.wm
  size := Nat.le_trans h.size k.size
  frame r hr hf := by
    have h1 := h.frame r hr fun a b p q l => Nat.lt_of_lt_of_le (hf a b p q l) k.wm
    rw [← h1]
    refine k.frame r (Nat.lt_of_lt_of_le hr h.size) fun a b p q l => ?_
    cases h1' : ρ₁ a with
    | some b₁ =>
      have := h.sub _ _ h1'
      rw [p] at this; cases this
      exact hf a b h1' q (Classical.byContradiction fun e => e (h.dead _ _ h1' e ▸ l))
    | none =>
      obtain ⟨_, hr'⟩ := h.new a b p h1'
      rcases hr' with hr' | ⟨a₁, b₁, p', q', l', r'⟩
      · omega
      · have := hf a₁ b₁ p' (q'.trans q) l'
        have := k.wm
        omega
  os := k.os.trans h.os
  tape := k.tape.trans h.tape
  output := k.output.trans h.output
def TR (ρ : Rho) (n : Nat) (t : Tr RV) (tmps : Array Value) : Prop := tmps.size = n ∧ ∀ i, VR ρ (Tr.get undef (path i) t) (tmps.getD i Go.undef)
theorem TR.mono {ρ ρ' : Rho} (h : ρ.sub ρ') {n : Nat} {t : Tr RV} {tmps : Array Value} (k : TR ρ n t tmps) : TR ρ' n t tmps := ⟨k.1, fun i => VR.mono h _ _ (k.2 i)⟩
theorem VR_undef (ρ : Rho) : VR ρ undef Go.undef := by
  simp only [undef, VR]; exact ⟨#[], rfl, VRs.nil⟩
theorem TR.set {ρ : Rho} {n : Nat} {t : Tr RV} {tmps : Array Value} (k : TR ρ n t tmps) {d : Nat} (hd : d < n) {x : RV} {v : Value} (h : VR ρ x v) :
    TR ρ n (Tr.set undef (path d) x t) (tmps.setIfInBounds d v) := by
  refine ⟨by simp [k.1], fun i => ?_⟩
  by_cases hi : i = d
  · subst hi
    rw [Tr.get_set]
    have : (tmps.setIfInBounds i v).getD i Go.undef = v := by simp [Array.getD, k.1, hd]
    rw [this]; exact h
  · rw [Tr.get_set_ne (fun e => hi (path_inj e))]
    have : (tmps.setIfInBounds d v).getD i Go.undef = tmps.getD i Go.undef := by
      simp only [Array.getD_eq_getD_getElem?, Array.getElem?_setIfInBounds_ne (Ne.symm hi)]
    rw [this]; exact k.2 i
def evT (tmps : Array Value) (x : Operand) : Value := (Act.mk tmps []).eval x
theorem cOpd_VR {ρ : Rho} {n : Nat} {t : Tr RV} {tmps : Array Value} (k : TR ρ n t tmps) (x : Operand) : VR ρ (cOpd x t) (evT tmps x) := by
  cases x with
  | tmp i => exact k.2 i
  | const v => exact VR_ofV ρ v
  | global g => simp only [cOpd, VR]
  | func f => simp only [cOpd, VR]; exact ⟨#[], #[], rfl, VRs.nil, VRs.nil⟩
def putA (tmps : Array Value) (dst : Option Tmp) (v : Value) : Array Value := match dst with | some d => tmps.setIfInBounds d v | Option.none => tmps
def FunRet (P : Program) (f : FuncId) (args : Array Value) (w : World) (v : Value) (w' : World) : Prop :=
  ∀ cs, ∃ fr, Steps P (lone (Frame.enter P f args .normal) cs w) (lone fr cs w') ∧ fr.fn = f ∧ fr.leaving P w' (.returned v)
def Gives (P : Program) (s : Sem Next) (w : World) (v : Value) (w' : World) : Prop :=
  ∀ (fr : Frame) (cs : List Frame) (ops : Array Oper) (i : Nat) (rest : List Nat) (k : List Item), fr.mode = .run → fr.todo = .inRegion ops (i :: rest) :: k →
    stepG P true { frame := fr, callers := cs, status := .running, dying := Option.none } w = stepG.apply P true fr cs Option.none s w →
    Steps P (lone fr cs w) (lone (fr.finish v) cs w')
section
variable {P : Program} {s : Sem Next} {w w' : World} {v : Value}
theorem gives_value (h : s.run P w = .ok (.value v) w') : Gives P s w v w' := by
  intro fr cs ops i rest k _ _ hs
  refine .one (step_lone_go ?_)
  rw [hs]; simp [stepG.apply, h]
theorem gives_skip (h : s.run P w = .ok .skip w') : Gives P s w Go.undef w' := by
  intro fr cs ops i rest k _ _ hs
  refine .one (step_lone_go ?_)
  rw [hs]; simp [stepG.apply, h]
theorem gives_enter {f : FuncId} {args : Array Value} {w1 : World} (h : s.run P w = .ok (.enter f args) w1) (hf : FunRet P f args w1 v w') : Gives P s w v w' := by
  intro fr cs ops i rest k _ ht hs
  obtain ⟨fr', h1, _, h2⟩ := hf (fr :: cs)
  have henter : step P (lone fr cs w) = .next (lone (Frame.enter P f args .normal) (fr :: cs) w1) :=
    step_lone_go (by rw [hs]; simp [stepG.apply, h, ht])
  exact .head henter (h1.trans (.one (step_leave_returned h2)))
end
end Go.Ref
end
section
namespace Go.Ref
open Go
theorem llen_eq (l : List RV) : llen l = l.length := by
  induction l with
  | nil => rfl
  | cons x l ih => show (llen l).succ = _; rw [ih]; rfl
theorem ldrop_eq (i : Nat) (l : List RV) : ldrop i l = l.drop i := by
  induction i generalizing l with
  | zero => rfl
  | succ i ih => cases l with
    | nil => rfl
    | cons x l => exact ih l
theorem allCells_eq (l : List RV) : allCells l = true ↔ ∀ x ∈ l, x.isCell = true := by
  induction l with
  | nil => simp [allCells]
  | cons x l ih =>
    have h : allCells (x :: l) = (match x.isCell with | true => allCells l | false => false) := by
      show Bool.rec (motive := fun _ => Bool) false (allCells l) x.isCell = _
      cases x.isCell <;> rfl
    rw [h]
    cases hx : x.isCell <;> simp [hx, ih]
def Good (P : Program) (n : Nat) (dst : Option Tmp) (s : Sem Next) (ρ : Rho) (m : Hp) (w : World) (tmps : Array Value) (r : OR) : Prop :=
  match r with
  | .bad => True
  | .ok t' m' => ∃ ρ' v w', Gives P s w v w' ∧ Ext ρ m w ρ' m' w' ∧ Sim ρ' m' w' ∧ TR ρ' n t' (putA tmps dst v)
  | .dfr _ _ _ => False
section
variable {P : Program} {n : Nat} {dst : Option Tmp} {s : Sem Next} {ρ : Rho} {m : Hp} {w : World} {tmps : Array Value}
theorem good_bad : Good P n dst s ρ m w tmps .bad := trivial
theorem good_put {t : Tr RV} {m₁ : Hp} {x : RV} {ρ' : Rho} {v : Value} {w' : World} (ht : TR ρ n t tmps) (hg : Gives P s w v w') (he : Ext ρ m w ρ' m₁ w') (hs : Sim ρ' m₁ w') (hv : VR ρ' x v) :
    Good P n dst s ρ m w tmps (putd n dst x t m₁) := by
  unfold putd
  cases dst with
  | none => exact ⟨ρ', v, w', hg, he, hs, ht.mono he.sub⟩
  | some d =>
    simp only []
    cases hd : Nat.blt d n with
    | false => trivial
    | true => exact ⟨ρ', v, w', hg, he, hs, (ht.mono he.sub).set (by simpa [Nat.blt_eq] using hd) hv⟩
theorem good_same {t : Tr RV} {x : RV} {v : Value} (ht : TR ρ n t tmps) (hs : Sim ρ m w) (hr : s.run P w = .ok (.value v) w) (hv : VR ρ x v) : Good P n dst s ρ m w tmps (putd n dst x t m) :=
  good_put ht (gives_value hr) (.refl ρ m w) hs hv
theorem good_iteK {b : Bool} {x y : OR} (hx : b = true → Good P n dst s ρ m w tmps x) (hy : b = false → Good P n dst s ρ m w tmps y) : Good P n dst s ρ m w tmps (iteK b x y) := by
  cases b
  · exact hy rfl
  · exact hx rfl
theorem good_ptrK {x : RV} {k : Pos → Nat → OR} (h : ∀ a o, x = .ptr a o → Good P n dst s ρ m w tmps (k a o)) : Good P n dst s ρ m w tmps (x.ptrK k) := by
  unfold RV.ptrK; split
  · exact h _ _ rfl
  · trivial
theorem good_boolK {x : RV} {k : Bool → OR} (h : ∀ b, x = .bool b → Good P n dst s ρ m w tmps (k b)) : Good P n dst s ρ m w tmps (x.boolK k) := by
  unfold RV.boolK; split
  · exact h _ rfl
  · trivial
theorem good_intK {x : RV} {k : IntKind → Int → OR} (h : ∀ i a, x = .int i a → Good P n dst s ρ m w tmps (k i a)) : Good P n dst s ρ m w tmps (x.intK k) := by
  unfold RV.intK; split
  · exact h _ _ rfl
  · trivial
theorem good_natK {x : RV} {k : Nat → OR} (h : ∀ i a, x = .int i (Int.ofNat a) → Good P n dst s ρ m w tmps (k a)) : Good P n dst s ρ m w tmps (x.natK k) := by
  unfold RV.natK; split
  · exact h _ _ rfl
  · trivial
theorem good_tupleK {x : RV} {k : List RV → OR} (h : ∀ l, x = .tuple l → Good P n dst s ρ m w tmps (k l)) : Good P n dst s ρ m w tmps (x.tupleK k) := by
  unfold RV.tupleK; split
  · exact h _ rfl
  · trivial
theorem good_aggK {x : RV} {k : List RV → OR} (h : ∀ l, x = .agg l → Good P n dst s ρ m w tmps (k l)) : Good P n dst s ρ m w tmps (x.aggK k) := by
  unfold RV.aggK; split
  · exact h _ rfl
  · trivial
theorem good_strK {x : RV} {k : List Nat → OR} (h : ∀ s', x = .str s' → Good P n dst s ρ m w tmps (k s')) : Good P n dst s ρ m w tmps (x.strK k) := by
  unfold RV.strK; split
  · exact h _ rfl
  · trivial
theorem good_mapE {x : RV} {nl : OR} {k : Pos → OR} (h1 : x = .nilMap → Good P n dst s ρ m w tmps nl) (h2 : ∀ a, x = .map a → Good P n dst s ρ m w tmps (k a)) : Good P n dst s ρ m w tmps (x.mapE nl k) := by
  unfold RV.mapE; split
  · exact h1 rfl
  · exact h2 _ rfl
  · trivial
theorem good_sliceE {x : RV} {nl : OR} {k : Pos → Nat → Nat → Nat → Option Nat → OR} (h1 : x = .nilSlice → Good P n dst s ρ m w tmps nl)
    (h2 : ∀ a o l c u, x = .slice a o l c u → Good P n dst s ρ m w tmps (k a o l c u)) : Good P n dst s ρ m w tmps (x.sliceE nl k) := by
  unfold RV.sliceE; split
  · exact h1 rfl
  · exact h2 _ _ _ _ _ rfl
  · trivial
theorem good_someK {x : RV} {k : RV → OR} (h : x ≠ .none → Good P n dst s ρ m w tmps (k x)) : Good P n dst s ρ m w tmps (x.someK k) := by
  unfold RV.someK; split
  · trivial
  · rename_i h0; exact h (fun e => h0 e)
theorem good_cellsK {o : RO} {k : List RV → OR} (h : ∀ cs, o = .cells cs → Good P n dst s ρ m w tmps (k cs)) : Good P n dst s ρ m w tmps (o.cellsK k) := by
  unfold RO.cellsK; split
  · exact h _ rfl
  · trivial
theorem good_rdK {o : RO} {k : List RV → OR} (h : ∀ cs, (o = .cells cs ∨ o = .ro cs) → Good P n dst s ρ m w tmps (k cs)) : Good P n dst s ρ m w tmps (o.rdK k) := by
  unfold RO.rdK; split
  · exact h _ (.inl rfl)
  · exact h _ (.inr rfl)
  · trivial
theorem good_mapK {o : RO} {k : List ME → Nat → OR} (h : ∀ es c, o = .map es c → Good P n dst s ρ m w tmps (k es c)) : Good P n dst s ρ m w tmps (o.mapK k) := by
  unfold RO.mapK; split
  · exact h _ _ rfl
  · trivial
theorem good_lnth {k : RV → OR} : ∀ {i : Nat} {l : List RV}, (∀ x, l[i]? = some x → Good P n dst s ρ m w tmps (k x)) → Good P n dst s ρ m w tmps (lnth i l k)
  | 0, [], _ => trivial
  | 0, x :: l, h => h x (by simp)
  | i + 1, [], _ => trivial
  | i + 1, x :: l, h => good_lnth (i := i) (l := l) fun y hy => h y (by simpa using hy)
theorem good_ltakeK : ∀ {i : Nat} {l : List RV} {k : List RV → OR}, (i ≤ l.length → Good P n dst s ρ m w tmps (k (l.take i))) → Good P n dst s ρ m w tmps (ltakeK i l k)
  | 0, l, k, h => by have := h (Nat.zero_le _); rw [List.take_zero] at this; exact this
  | i + 1, [], _, _ => trivial
  | i + 1, x :: l, k, h => good_ltakeK (i := i) (l := l) (k := fun y => k (x :: y)) fun hi => by simpa using h (by simpa using hi)
theorem good_loverK : ∀ {vs l : List RV} {k : List RV → OR}, (vs.length ≤ l.length → Good P n dst s ρ m w tmps (k (vs ++ l.drop vs.length))) → Good P n dst s ρ m w tmps (loverK vs l k)
  | [], l, k, h => by have := h (Nat.zero_le _); simp only [List.nil_append, List.length_nil, List.drop_zero] at this; exact this
  | v :: vs, [], _, _ => trivial
  | v :: vs, x :: l, k, h => good_loverK (vs := vs) (l := l) (k := fun y => k (v :: y)) fun hi => by simpa using h (by simpa using hi)
theorem good_lputK : ∀ {i : Nat} {vs l : List RV} {k : List RV → OR}, (i + vs.length ≤ l.length → Good P n dst s ρ m w tmps (k (l.take i ++ (vs ++ l.drop (i + vs.length))))) → Good P n dst s ρ m w tmps (lputK i vs l k)
  | 0, vs, l, k, h => good_loverK fun hi => by simpa using h (by simpa using hi)
  | i + 1, vs, [], _, _ => trivial
  | i + 1, vs, x :: l, k, h => good_lputK (i := i) (vs := vs) (l := l) (k := fun y => k (x :: y)) fun hi => by
      have := h (by simp only [List.length_cons]; omega)
      have e : i + 1 + vs.length = (i + vs.length) + 1 := by omega
      rw [e] at this
      simpa using this
end
theorem VR.oneCell {ρ : Rho} {x : RV} {v : Value} (h : VR ρ x v) (hx : x.isCell = true) : v.oneCell' = true := by
  cases x <;> simp only [RV.isCell, Bool.false_eq_true] at hx <;> simp only [VR] at h
  all_goals first
    | (subst h; rfl)
    | (obtain ⟨_, rfl, _⟩ := h; rfl)
    | (obtain ⟨_, _, rfl⟩ := h; rfl)
    | (obtain ⟨_, _, _, _, rfl, _⟩ := h; rfl)
    | (obtain ⟨_, _, rfl, _⟩ := h; rfl)
    | (obtain ⟨_, _, rfl, h⟩ := h; exact h)
    | (obtain ⟨_, _, _, _, rfl, _⟩ := h; rfl)
    | (obtain ⟨_, _, _, _, _, _, _, _, rfl, _⟩ := h; rfl)
theorem VR.cells {ρ : Rho} {x : RV} {v : Value} (h : VR ρ x v) (hx : x ≠ .none) : VRs ρ x.cells v.cells.toList := by
  have one : ∀ {x : RV} {v : Value}, VR ρ x v → VRs ρ [x] (#[v] : Array Value).toList := fun h => VRs.cons h VRs.nil
  cases x <;> simp only [VR] at h
  case none => exact absurd rfl hx
  case agg l => obtain ⟨cs, rfl, h⟩ := h; exact h
  all_goals
    simp only [RV.cells]
    first
    | (subst h; exact one (by simp only [VR]))
    | (obtain ⟨x, rfl, h⟩ := h; exact one (by simp only [VR]; exact ⟨_, rfl, h⟩))
    | (obtain ⟨b, hb, rfl⟩ := h; exact one (by simp only [VR]; exact ⟨_, hb, rfl⟩))
    | (obtain ⟨b, n, hb, he, rfl, h⟩ := h; exact one (by simp only [VR]; exact ⟨_, _, hb, he, rfl, h⟩))
    | (obtain ⟨b, bj, A, n, c, hb, hj, he, rfl, h⟩ := h; exact one (by simp only [VR]; exact ⟨_, _, _, _, _, hb, hj, he, rfl, h⟩))
    | (obtain ⟨b, o, c, hb, rfl, h⟩ := h; exact one (by simp only [VR]; exact ⟨_, _, _, hb, rfl, h⟩))
    | (obtain ⟨b, o, rfl, h⟩ := h; exact one (by simp only [VR]; exact ⟨_, _, rfl, h⟩))
    | (obtain ⟨b, hb, rfl, h⟩ := h
       have hv : b.val.cells.toList = [b.val] := by
         revert h; cases b.val <;> intro h <;> first | rfl | (cases h; done)
       rw [hv]; exact VRs.cons (by simp only [VR]; exact ⟨_, hb, rfl, h⟩) VRs.nil)
open Classical in
noncomputable def Rho.upd (ρ : Rho) (a : Pos) (b : Blk) : Rho := fun x => if x = a then some b else ρ x
theorem Rho.upd_same (ρ : Rho) (a : Pos) (b : Blk) : ρ.upd a b a = some b := by simp [Rho.upd]
theorem Rho.upd_ne (ρ : Rho) {a x : Pos} (b : Blk) (h : x ≠ a) : ρ.upd a b x = ρ x := by simp [Rho.upd, h]
theorem Rho.upd_sub {ρ : Rho} {a : Pos} (b : Blk) (h : ρ a = Option.none) : ρ.sub (ρ.upd a b) := fun x y hx => by
  rw [Rho.upd_ne _ _ (fun e => by rw [e, h] at hx; cases hx)]; exact hx
theorem Sim.fresh {ρ : Rho} {m : Hp} {w : World} (h : Sim ρ m w) : ρ m.nx = Option.none := by
  cases hx : ρ m.nx with
  | none => rfl
  | some b => exact absurd (h.lt _ _ hx) (Nat.lt_irrefl _)
theorem Hp.at_new {h : Tr RO} {nx wm : Pos} {o : RO} (a : Pos) : (Hp.mk (Tr.set .dead nx o h) nx.succ wm).at a = (open Classical in if a = nx then o else (Hp.mk h nx wm).at a) := by
  unfold Hp.at
  by_cases e : a = nx
  · subst e; simp [Tr.get_set]
  · simp [e, Tr.get_set_ne e]
theorem new_block {ρ : Rho} {h : Tr RO} {nx wm : Pos} {w w' : World} (hs : Sim ρ ⟨h, nx, wm⟩ w) (o : RO) (N : Nat) (ob : Obj)
    (hh : w'.heap = w.heap.push ob) (h1 : w'.os = w.os) (h2 : w'.tape = w.tape) (h3 : w'.output = w.output)
    (ho : ObjR (ρ.upd nx ⟨w.heap.size, 0, N, .nilFunc⟩) o ⟨w.heap.size, 0, N, .nilFunc⟩ w') :
    Ext ρ ⟨h, nx, wm⟩ w (ρ.upd nx ⟨w.heap.size, 0, N, .nilFunc⟩) ⟨Tr.set .dead nx o h, nx.succ, wm⟩ w' ∧ Sim (ρ.upd nx ⟨w.heap.size, 0, N, .nilFunc⟩) ⟨Tr.set .dead nx o h, nx.succ, wm⟩ w' := by
  have hf : ρ nx = Option.none := hs.fresh
  have hsz : w'.heap.size = w.heap.size + 1 := by rw [hh]; simp
  have hget : ∀ r, r < w.heap.size → w'.heap[r]? = w.heap[r]? := fun r hr => by rw [hh, Array.getElem?_push]; rw [if_neg (by omega)]
  refine ⟨⟨Rho.upd_sub _ hf, ?_, ?_, ?_, ?_, ?_, Nat.le_refl _, by omega, fun r hr _ => hget r hr, h1, h2, h3⟩, ⟨?_, ?_, ?_, ?_⟩⟩
  · intro a b ha hn
    by_cases e : a = nx
    · subst e; rw [Rho.upd_same] at ha; cases ha; exact ⟨Nat.le_refl _, .inl (Nat.le_refl _)⟩
    · rw [Rho.upd_ne _ _ e, hn] at ha; cases ha
  · intro a h1 h2
    have h1 : nx.num ≤ a.num := h1
    have h2 : a.num < nx.succ.num := h2
    rw [Pos.num_succ] at h2
    have e : a = nx := Pos.num_inj (by omega)
    exact ⟨_, by rw [e, Rho.upd_same]⟩
  · intro a b ha hd
    rw [Hp.at_new, if_neg (fun e => by rw [e, hf] at ha; cases ha)]
  · intro a ha _
    rw [Hp.at_new, if_neg (fun e => by rw [e] at ha; exact Nat.lt_irrefl _ ha)]
  · show nx.num ≤ nx.succ.num; rw [Pos.num_succ]; omega
  · intro a b ha
    show a.num < nx.succ.num
    rw [Pos.num_succ]
    by_cases e : a = nx
    · subst e; omega
    · rw [Rho.upd_ne _ _ e] at ha; have := hs.lt _ _ ha; exact Nat.lt_succ_of_lt this
  · intro a b ha hd
    by_cases e : a = nx
    · subst e; rw [Rho.upd_same] at ha; cases ha; simp [hsz]
    · rw [Rho.upd_ne _ _ e] at ha
      rw [Hp.at_new, if_neg e] at hd
      have := hs.rlt _ _ ha hd; omega
  · intro a b ha
    rw [Hp.at_new]
    by_cases e : a = nx
    · subst e; rw [Rho.upd_same] at ha; cases ha; simpa using ho
    · rw [Rho.upd_ne _ _ e] at ha; simp only [e, if_false]
      by_cases hd : (Hp.mk h nx wm).at a = .dead
      · rw [hd]; trivial
      · exact (hs.obj _ _ ha).mono (Rho.upd_sub _ hf) (hget _ (hs.rlt _ _ ha hd))
  · intro a b a' b' ha ha' hr hd hd'
    rw [Hp.at_new] at hd hd'
    by_cases e : a = nx <;> by_cases e' : a' = nx
    · rw [e, e']
    · subst e; rw [Rho.upd_same] at ha; cases ha
      rw [Rho.upd_ne _ _ e'] at ha'
      simp only [e', if_false] at hd'
      have := hs.rlt _ _ ha' hd'; simp only at hr; omega
    · subst e'; rw [Rho.upd_same] at ha'; cases ha'
      rw [Rho.upd_ne _ _ e] at ha
      simp only [e, if_false] at hd
      have := hs.rlt _ _ ha hd.ne; simp only at hr; omega
    · rw [Rho.upd_ne _ _ e] at ha; rw [Rho.upd_ne _ _ e'] at ha'
      simp only [e, e', if_false] at hd hd'
      exact hs.inj _ _ _ _ ha ha' hr hd hd'
theorem Hp.at_put {m : Hp} {a : Pos} {o : RO} (x : Pos) : (m.put a o).at x = (open Classical in if x = a then o else m.at x) := by
  obtain ⟨h, nx, wm⟩ := m
  unfold Hp.at Hp.put
  by_cases e : x = a
  · subst e; simp [Tr.get_set]
  · simp [e, Tr.get_set_ne e]
theorem Hp.nx_put {m : Hp} {a : Pos} {o : RO} : (m.put a o).nx = m.nx := by cases m; rfl
theorem Hp.wm_put {m : Hp} {a : Pos} {o : RO} : (m.put a o).wm.num = Min.min a.num m.wm.num := by cases m; exact Pos.num_min _ _
theorem put_block {ρ : Rho} {m : Hp} {w w' : World} (hs : Sim ρ m w) {a : Pos} {b : Blk} (ha : ρ a = some b) (hl : (m.at a).wr) (o : RO)
    (hsz : w'.heap.size = w.heap.size) (hh : ∀ r, r ≠ b.r → w'.heap[r]? = w.heap[r]?) (h1 : w'.os = w.os) (h2 : w'.tape = w.tape) (h3 : w'.output = w.output)
    (ho : ObjR ρ o b w') : Ext ρ m w ρ (m.put a o) w' ∧ Sim ρ (m.put a o) w' := by
  refine ⟨⟨.refl ρ, (fun x y hx hn => by rw [hx] at hn; cases hn), (fun x h1 h2 => by rw [Hp.nx_put] at h2; omega), ?_, ?_, by rw [Hp.nx_put]; exact Nat.le_refl _, by rw [Hp.wm_put]; omega, by omega, ?_, h1, h2, h3⟩, ⟨?_, ?_, ?_, ?_⟩⟩
  · intro x y hx hd
    rw [Hp.at_put, if_neg (fun e => by rw [e] at hd; exact hd hl)]
  · intro x _ hx2
    rw [Hp.at_put, if_neg]
    rintro rfl
    rcases hx2 with hx2 | hx2
    · rw [ha] at hx2; cases hx2
    · rw [Hp.wm_put] at hx2; omega
  · intro r _ hf
    refine hh r fun e => ?_
    have := hf a b ha e.symm hl
    rw [Hp.wm_put] at this
    omega
  · intro x y hx; rw [Hp.nx_put]; exact hs.lt _ _ hx
  · intro x y hx hd
    rw [hsz]
    rw [Hp.at_put] at hd
    by_cases e : x = a
    · subst e; exact hs.rlt _ _ hx hl.ne
    · rw [if_neg e] at hd; exact hs.rlt _ _ hx hd
  · intro x y hx
    rw [Hp.at_put]
    by_cases e : x = a
    · subst e; rw [ha] at hx; cases hx; simpa using ho
    · simp only [e, if_false]
      by_cases hd : m.at x = .dead
      · rw [hd]; trivial
      · refine (hs.obj _ _ hx).mono (.refl ρ) (hh _ fun e' => ?_)
        exact e (hs.inj _ _ _ _ ha hx e'.symm hl hd).symm
  · intro x y x' y' hx hx' hr hd hd'
    rw [Hp.at_put] at hd hd'
    by_cases e : x = a <;> by_cases e' : x' = a
    · rw [e, e']
    · subst e
      simp only [e', if_false] at hd'
      rw [ha] at hx; cases hx
      exact hs.inj _ _ _ _ ha hx' hr hl hd'
    · subst e'
      simp only [e, if_false] at hd
      rw [ha] at hx'; cases hx'
      exact hs.inj _ _ _ _ hx ha hr hd hl.ne
    · simp only [e, e', if_false] at hd hd'
      exact hs.inj _ _ _ _ hx hx' hr hd hd'
end Go.Ref
end
section
namespace Go.Ref
open Go
section
variable {P : Program} {n : Nat} {ρ : Rho} {m : Hp} {w : World} {tmps : Array Value} {t : Tr RV} {o : Oper}
theorem validT_und {P : Program} {ty : TypeId} (h : validT P ty = true) : ∃ d, P.underlying ty = some d := by
  unfold validT und at h
  cases hu : P.underlying ty with
  | none => simp [hu] at h
  | some d => exact ⟨d, rfl⟩
theorem zeroT_known {P : Program} {ty : TypeId} (h : (zeroT P ty).known = true) : ∃ i z, P.info? ty = some i ∧ i.zero = some z ∧ zeroT P ty = ofV z := by
  unfold zeroT at *
  cases hi : P.info? ty with
  | none => simp [hi, ofV, RV.known] at h
  | some i =>
    cases hz : i.zero with
    | none => simp [hi, hz, ofV, RV.known] at h
    | some z => exact ⟨i, z, rfl, hz, by simp [hz]⟩
theorem known_ne {x : RV} (h : x.known = true) : x ≠ .none := by rintro rfl; simp [RV.known] at h
theorem run_zeroValue {ty : TypeId} {i : TypeInfo} {z : Value} (hi : P.info? ty = some i) (hz : i.zero = some z) (w : World) : (zeroValue ty).run P w = .ok z w := by
  simp [zeroValue, typeInfo, hi, hz]
theorem good_move (ht : TR ρ n t tmps) (hs : Sim ρ m w) {x : Operand} (ho : o.op = .move x ∨ o.op = .assign x) :
    Good P n o.dst (execOp (evT tmps) o) ρ m w tmps (putd n o.dst (cOpd x t) t m) :=
  good_same ht hs (by rcases ho with ho | ho <;> simp [execOp, ho]) (cOpd_VR ht x)
theorem objR_new {ρ : Rho} {xs : List RV} {vs : Array Value} {w : World} {el : TypeId} (h : VRs ρ xs vs.toList) : ObjR ρ (.cells xs) ⟨w.heap.size, 0, vs.size, .nilFunc⟩ (w.alloc (.cells vs el)) := by
  refine ⟨vs, el, (by show (w.heap.push _)[w.heap.size]? = _; simp), rfl, ?_, ?_⟩
  · have := h.length; simp at this; simp [this]
  · have := h.length; simp at this
    simp [this, List.take_of_length_le]; exact h
theorem good_new {dst : Option Tmp} {s : Sem Next} (ht : TR ρ n t tmps) (hs : Sim ρ m w) {w₀ : World} {xs : List RV} {vs : Array Value} {el : TypeId} {k : Pos → RV} {v : Value}
    (hw : ∃ d, w₀ = { w with drawn := d })
    (hr : s.run P w = .ok (.value v) (w₀.alloc (.cells vs el))) (hx : VRs ρ xs vs.toList) (hv : ∀ ρ' : Rho, ρ' m.nx = some ⟨w.heap.size, 0, vs.size, .nilFunc⟩ → VR ρ' (k m.nx) v) :
    Good P n dst s ρ m w tmps (newK m (.cells xs) fun a m => putd n dst (k a) t m) := by
  obtain ⟨h, nx, wm⟩ := m
  obtain ⟨d, rfl⟩ := hw
  have hsub : ρ.sub (ρ.upd nx ⟨w.heap.size, 0, vs.size, .nilFunc⟩) := Rho.upd_sub _ hs.fresh
  obtain ⟨h1, h2⟩ := new_block hs (.cells xs) vs.size (.cells vs el) (w' := ({ w with drawn := d } : World).alloc (.cells vs el)) rfl rfl rfl rfl (objR_new (w := { w with drawn := d }) (VRs.mono hsub _ _ hx))
  exact good_put ht (gives_value hr) h1 h2 (hv _ (Rho.upd_same _ _ _))
theorem good_alloc (ht : TR ρ n t tmps) (hs : Sim ρ m w) {call : CallF} {ty : TypeId} (ho : o.op = .alloc ty) :
    Good P n o.dst (execOp (evT tmps) o) ρ m w tmps (cAlloc P (putd n o.dst) ty call t m) := by
  unfold cAlloc
  cases hk : (zeroT P ty).known with
  | false => exact good_bad
  | true =>
    obtain ⟨i, z, hi, hz, he⟩ := zeroT_known hk
    have hv : VR ρ (zeroT P ty) z := by rw [he]; exact VR_ofV ρ z
    refine good_new ht hs (k := fun a => .ptr a 0) ⟨w.drawn, rfl⟩ (v := .pointer (some ⟨w.heap.size, 0, Option.none⟩)) (el := ty) ?_ (hv.cells (known_ne hk)) ?_
    · simp [execOp, ho, Instr.alloc, run_zeroValue hi hz, newVar, newRow]
    · intro ρ' h; simp only [VR]; exact ⟨_, h, rfl⟩
theorem good_box (ht : TR ρ n t tmps) (hs : Sim ρ m w) {ty : TypeId} {x : Operand} (ho : o.op = .box ty x) :
    Good P n o.dst (execOp (evT tmps) o) ρ m w tmps ((cOpd x t).someK fun v => newK m (.cells v.cells) fun a m => putd n o.dst (.ptr a 0) t m) := by
  refine good_someK fun hne => ?_
  refine good_new ht hs (k := fun a => .ptr a 0) ⟨w.drawn, rfl⟩ (v := .pointer (some ⟨w.heap.size, 0, Option.none⟩)) (el := ty) ?_ ((cOpd_VR ht x).cells hne) ?_
  · simp [execOp, ho, Instr.box, newVar, newRow]
  · intro ρ' h; simp only [VR]; exact ⟨_, h, rfl⟩
theorem Sim.cells {ρ : Rho} {m : Hp} {w : World} (hs : Sim ρ m w) {a : Pos} {b : Blk} (ha : ρ a = some b) {cs : List RV} (hc : m.at a = .cells cs) :
    ∃ (c : Array Value) (el : TypeId), w.heap[b.r]? = some (.cells c el) ∧ c.size = b.N ∧ b.sh + cs.length ≤ b.N ∧ VRs ρ cs ((c.toList.drop b.sh).take cs.length) := by
  have := hs.obj _ _ ha
  rw [hc] at this
  exact this
theorem Sim.reads {ρ : Rho} {m : Hp} {w : World} (hs : Sim ρ m w) {a : Pos} {b : Blk} (ha : ρ a = some b) {cs : List RV} (hc : m.at a = .cells cs ∨ m.at a = .ro cs) :
    ∃ (c : Array Value) (el : TypeId) (fz : Nat × Nat), w.heap[b.r]? = some (.cells c el fz) ∧ c.size = b.N ∧ b.sh + cs.length ≤ b.N ∧ VRs ρ cs ((c.toList.drop b.sh).take cs.length) := by
  have := hs.obj _ _ ha
  rcases hc with hc | hc
  · rw [hc] at this; obtain ⟨c, el, h⟩ := this; exact ⟨c, el, _, h⟩
  · rw [hc] at this; exact this
theorem VRs.range {ρ : Rho} {cs : List RV} {c : Array Value} {sh : Nat} (h : VRs ρ cs ((c.toList.drop sh).take cs.length)) {o k : Nat} (hk : o + k ≤ cs.length) :
    VRs ρ ((cs.drop o).take k) ((c.toList.drop (sh + o)).take k) := by
  have h1 := (h.drop o).take k
  rw [List.drop_take, List.drop_drop, List.take_take] at h1
  rw [Nat.min_eq_left (by omega)] at h1
  exact h1
theorem und_agg {P : Program} {ty : TypeId} (h : aggT P ty = true) : ∃ d, P.underlying ty = some d ∧ d.isRow = true := by
  unfold aggT und at h
  cases hu : P.underlying ty with
  | none => simp [hu] at h
  | some d => exact ⟨d, rfl, by cases d <;> simp [hu] at h <;> rfl⟩
theorem isAgg_false {P : Program} {ty : TypeId} (h : aggT P ty = false) {d : TypeDesc} (hu : P.underlying ty = some d) (w : World) : (isAgg ty).run P w = .ok false w := by
  unfold aggT und at h
  unfold isAgg
  rw [Sem.run_bind, run_underlying hu w]
  cases d <;> simp_all
theorem info_of_und {P : Program} {ty : TypeId} {d : TypeDesc} (hu : P.underlying ty = some d) : ∃ i, P.info? ty = some i ∧ size P ty = i.size := by
  unfold Program.underlying at hu
  cases hi : P.info? ty with
  | none => simp [hi] at hu
  | some i => exact ⟨i, rfl, by simp [size, Program.cellsOf, hi]⟩
theorem rangeAt_of {w : World} {r : Nat} {c : Array Value} {el : TypeId} {fz : Nat × Nat} (h : w.heap[r]? = some (.cells c el fz)) (o k : Nat) : w.rangeAt r o ((c.toList.drop o).take k) := by
  intro j v hv
  have hv' : c[o + j]? = some v := by
    rw [List.getElem?_take] at hv
    split at hv
    · rw [List.getElem?_drop] at hv; simpa using hv
    · cases hv
  simp [World.cell?, h, hv']
theorem good_loadO {dst : Option Tmp} {s : Sem Next} (hs : Sim ρ m w) {ty : TypeId} {x : RV} {v : Value} {k : RV → OR} (hx : VR ρ x v) (hd : ∃ d, P.underlying ty = some d)
    (hk : ∀ y u, (Instr.loadAt ty v).run P w = .ok u w → VR ρ y u → Good P n dst s ρ m w tmps (k y)) :
    Good P n dst s ρ m w tmps (loadO (aggT P ty) (size P ty) m x k) := by
  unfold loadO
  refine good_ptrK fun a o he => ?_
  subst he
  simp only [VR] at hx
  obtain ⟨b, hb, rfl⟩ := hx
  refine good_rdK fun cs hc => ?_
  obtain ⟨c, el, fz, h1, h2, h3, h4⟩ := hs.reads hb hc
  obtain ⟨d, hu⟩ := hd
  obtain ⟨i, hi, hsz⟩ := info_of_und hu
  cases hagg : aggT P ty with
  | true =>
    simp only []
    refine good_ltakeK fun hle => ?_
    rw [ldrop_eq] at hle ⊢
    simp only [List.length_drop] at hle
    obtain ⟨d', hu', hrow⟩ := und_agg hagg
    by_cases h0 : size P ty = 0
    · refine hk _ (.agg ((c.toList.drop (b.sh + o)).take (size P ty)).toArray) (run_loadAt_mid w b.r (b.sh + o) ty _ d' (rangeAt_of h1 _ _) hu' hrow ?_) ?_
      · rw [hi]; simp [hsz] at h0 ⊢; omega
      · rw [h0]; simp only [List.take_zero]; simp only [VR]; exact ⟨#[], rfl, VRs.nil⟩
    · have hlen : ((c.toList.drop (b.sh + o)).take (size P ty)).length = size P ty := by
        rw [List.length_take, List.length_drop, Array.length_toList]; omega
      refine hk _ (.agg ((c.toList.drop (b.sh + o)).take (size P ty)).toArray) (run_loadAt_mid w b.r (b.sh + o) ty _ d' (rangeAt_of h1 _ _) hu' hrow ?_) ?_
      · rw [hi, hlen]; simp [hsz]
      · simp only [VR]; exact ⟨_, rfl, h4.range (by omega)⟩
  | false =>
    simp only []
    refine good_lnth fun y hy => ?_
    obtain ⟨u, hu1, hu2⟩ := h4.get o y hy
    have hlt : o < cs.length := (List.getElem?_eq_some_iff.1 hy).1
    have hcell : w.cell? ⟨b.r, b.sh + o, Option.none⟩ = some u := by
      rw [List.getElem?_take_of_lt hlt, List.getElem?_drop] at hu1
      simp [World.cell?, h1]
      simpa using hu1
    refine hk y u ?_ hu2
    simp [Instr.loadAt, Instr.sureAddr, loadVar, isAgg_false hagg hu, hcell]
theorem good_load (ht : TR ρ n t tmps) (hs : Sim ρ m w) {ty : TypeId} {x : Operand} (ho : o.op = .load ty x) (hd : ∃ d, P.underlying ty = some d) :
    Good P n o.dst (execOp (evT tmps) o) ρ m w tmps (loadO (aggT P ty) (size P ty) m (cOpd x t) fun v => putd n o.dst v t m) :=
  good_loadO hs (cOpd_VR ht x) hd fun y u hr hy => good_same ht hs (by simp [execOp, ho, hr]) hy
theorem over_list {α : Type} (c vs : List α) (sh o L : Nat) (h : o + vs.length ≤ L) (hc : sh + L ≤ c.length) :
    ((c.drop sh).take L).take o ++ (vs ++ ((c.drop sh).take L).drop (o + vs.length)) = ((c.take (sh + o) ++ vs ++ c.drop (sh + o + vs.length)).drop sh).take L := by
  apply List.ext_getElem?
  intro j
  simp only [List.getElem?_append, List.length_take, List.length_drop, List.length_append, List.getElem?_take, List.getElem?_drop]
  by_cases h1 : j < o
  · rw [if_pos (by omega), if_pos h1, if_pos (by omega), if_pos (by omega), if_pos (by omega), if_pos (by omega), if_pos (by omega)]
  · rw [if_neg (by omega)]
    by_cases h2 : j < o + vs.length
    · rw [if_pos (by omega), if_pos (by omega), if_pos (by omega), if_neg (by omega)]
      congr 1; omega
    · rw [if_neg (by omega)]
      by_cases h3 : j < L
      · rw [if_pos (by omega), if_pos h3, if_neg (by omega)]
        congr 1; omega
      · rw [if_neg (by omega), if_neg h3]
theorem objR_put {ρ : Rho} {m : Hp} {w : World} (hs : Sim ρ m w) {a : Pos} {b : Blk} (ha : ρ a = some b) {cs : List RV} (hc : m.at a = .cells cs) {o : Nat} {xs : List RV} {vs : List Value} (hx : VRs ρ xs vs)
    (hle : o + xs.length ≤ cs.length) (hcell : ∀ v ∈ vs, v.oneCell' = true) :
    ∃ w', (storeCells ⟨b.r, b.sh + o, Option.none⟩ vs 0).run P w = .ok () w' ∧ Ext ρ m w ρ (m.put a (.cells (cs.take o ++ (xs ++ cs.drop (o + xs.length))))) w' ∧
      Sim ρ (m.put a (.cells (cs.take o ++ (xs ++ cs.drop (o + xs.length))))) w' := by
  obtain ⟨c, el, h1, h2, h3, h4⟩ := hs.cells ha hc
  have hlen := hx.length
  have hst := run_storeCells_at (P := P) b.r (b.sh + o) el vs 0 c w h1 (by omega) hcell
  refine ⟨_, hst, ?_⟩
  simp only [Nat.add_zero]
  refine put_block hs ha (by rw [hc]; trivial) _ (by simp [World.setRow]) (fun r hr => setRow_other w _ _ _ hr) rfl rfl rfl ?_
  refine ⟨_, el, setRow_heap w _ _ _ _ _ h1, ?_, ?_, ?_⟩
  · simp; omega
  · simp; omega
  · have e : (cs.take o ++ (xs ++ cs.drop (o + xs.length))).length = cs.length := by simp; omega
    rw [e]
    have hL : (c.toList.drop b.sh).take cs.length = (c.toList.drop b.sh).take cs.length := rfl
    have hv := ((h4.take o).append (hx.append (h4.drop (o + xs.length))))
    refine (congrArg (fun l => VRs ρ (cs.take o ++ (xs ++ cs.drop (o + xs.length))) l) ?_).mp hv
    rw [hlen]
    exact over_list c.toList vs b.sh o cs.length (by omega) (by simp; omega)
theorem good_store (ht : TR ρ n t tmps) (hs : Sim ρ m w) {ty : TypeId} {x y : Operand} (ho : o.op = .store ty x y) (hd : ∃ d, P.underlying ty = some d) :
    Good P n o.dst (execOp (evT tmps) o) ρ m w tmps (storeO (size P ty) m (cOpd x t) (cOpd y t) fun m => putd n o.dst undef t m) := by
  unfold storeO
  have hx := cOpd_VR ht x
  refine good_ptrK fun a o' he => ?_
  rw [he] at hx
  simp only [VR] at hx
  obtain ⟨b, hb, hxv⟩ := hx
  refine good_cellsK fun cs hc => good_iteK (fun hsz => good_iteK (fun hall => good_lputK fun hle => ?_) fun _ => good_bad) fun _ => good_bad
  have hne : cOpd y t ≠ .none := by intro e; rw [e] at hall; simp [RV.cells, allCells, RV.isCell] at hall
  have hy := (cOpd_VR ht y).cells hne
  obtain ⟨d, hu⟩ := hd
  obtain ⟨i, hi, hsi⟩ := info_of_und hu
  rw [allCells_eq] at hall
  obtain ⟨w', hr, h1, h2⟩ := objR_put (P := P) hs hb hc (o := o') hy hle (fun v hv => by
    obtain ⟨j, hj⟩ := List.getElem?_of_mem hv
    have hl := hy.length
    have hjl : j < (cOpd y t).cells.length := by rw [hl]; exact (List.getElem?_eq_some_iff.1 hj).1
    obtain ⟨u, hu1, hu2⟩ := hy.get j _ (List.getElem?_eq_getElem hjl)
    rw [hj] at hu1; cases hu1
    exact hu2.oneCell (hall _ (List.getElem_mem hjl)))
  refine good_put ht (gives_skip ?_) h1 h2 (VR_undef ρ)
  have hsz' : (evT tmps y).cells.size = i.size := by
    have := hy.length
    rw [llen_eq] at hsz
    simp at this hsz
    omega
  simp [execOp, ho, Instr.storeAt, Instr.sureAddr, hxv, storeVar, sizeOf, typeInfo, hi, hsz', hr]
end
end Go.Ref
end
section
namespace Go.Ref
open Go
section
variable {P : Program} {n : Nat} {ρ : Rho} {m : Hp} {w : World} {tmps : Array Value} {t : Tr RV} {o : Oper}
theorem good_firstK {dst : Option Tmp} {s : Sem Next} (hs : Sim ρ m w) {x : RV} {v : Value} {sz : Nat} {k : List RV → OR} (hx : VR ρ x v)
    (h : ∀ (new : List RV) (news : List Value) a o l c u b off c' cc el fz cs, x = .slice a o l c u → ρ a = some b → v = .slice (some ⟨b.r, off, Option.none⟩) l c' → l ≤ c → c ≤ c' → (c' = 0 ∨ off = b.sh + o) →
      (match u with | Option.none => c' = c | some z => off + c' * z ≤ b.N) → (m.at a = .cells cs ∨ m.at a = .ro cs) → w.heap[b.r]? = some (.cells cc el fz) → cc.size = b.N →
      (l * sz = 0 ∨ off + l * sz ≤ b.N) → news = (cc.toList.drop off).take (l * sz) →
      VRs ρ new news → new.length = l * sz → (∀ d, (Builtin.firstCells sz l v).run P { w with drawn := d } = .ok news.toArray { w with drawn := d }) →
      Good P n dst s ρ m w tmps (k new)) :
    Good P n dst s ρ m w tmps (firstK sz m x k) := by
  unfold firstK
  refine good_sliceE (fun _ => good_bad) fun a o l c u he => ?_
  subst he
  refine good_rdK fun cs hc => good_ltakeK fun hle => ?_
  rw [ldrop_eq] at hle ⊢
  simp only [List.length_drop] at hle
  simp only [VR] at hx
  obtain ⟨b, off, c', hb, rfl, h1, h2, h3, h4⟩ := hx
  obtain ⟨cc, el, fz, g1, g2, g3, g4⟩ := hs.reads hb hc
  by_cases h0 : l * sz = 0
  · refine h _ [] a o l c u b off c' cc el fz cs rfl hb rfl h1 h2 h3 h4 hc g1 g2 (.inl h0) (by rw [h0]; simp) (by rw [h0]; simp only [List.take_zero]; exact VRs.nil) (by rw [h0]; simp) fun d => ?_
    exact run_firstCells_some _ sz l ⟨b.r, off, Option.none⟩ l c' [] (by simp [h0]) (fun j v hv => by simp at hv)
  · have hoff : off = b.sh + o := by
      rcases h3 with h3 | h3
      · exfalso; apply h0; have : l = 0 := by omega
        rw [this]; simp
      · exact h3
    subst hoff
    have hlen : ((cc.toList.drop (b.sh + o)).take (l * sz)).length = l * sz := by
      rw [List.length_take, List.length_drop, Array.length_toList]; omega
    refine h _ _ a o l c u b _ c' cc el fz cs rfl hb rfl h1 h2 h3 h4 hc g1 g2 (.inr (by omega)) rfl (g4.range (o := o) (k := l * sz) (by omega)) (by rw [List.length_take, List.length_drop]; omega) fun d => ?_
    refine run_firstCells_some _ sz l ⟨b.r, b.sh + o, Option.none⟩ l c' _ hlen fun j v hv => ?_
    rw [Addr.add_mid]
    exact rangeAt_of (w := { w with drawn := d }) g1 (b.sh + o) (l * sz) j v hv
theorem objR_new' {ρ : Rho} {xs : List RV} {vs : List Value} {c : Array Value} {w : World} {el : TypeId} (h : VRs ρ xs vs) (hp : ∃ r, c.toList = vs ++ r) : ObjR ρ (.cells xs) ⟨w.heap.size, 0, c.size, .nilFunc⟩ (w.alloc (.cells c el)) := by
  obtain ⟨r, hr⟩ := hp
  have hl := h.length
  have hc : c.size = vs.length + r.length := by rw [← Array.length_toList, hr]; simp
  refine ⟨c, el, (by show (w.heap.push _)[w.heap.size]? = _; simp), rfl, by simp only [Nat.zero_add]; omega, ?_⟩
  rw [List.drop_zero, hr, hl]
  simpa using h
theorem good_new' {dst : Option Tmp} {s : Sem Next} (ht : TR ρ n t tmps) (hs : Sim ρ m w) {d : Nat} {xs : List RV} {vs : List Value} {c : Array Value} {el : TypeId} {k : Pos → RV} {v : Value}
    (hr : s.run P w = .ok (.value v) (({ w with drawn := d } : World).alloc (.cells c el))) (hx : VRs ρ xs vs) (hp : ∃ r, c.toList = vs ++ r)
    (hv : ∀ ρ' : Rho, ρ' m.nx = some ⟨w.heap.size, 0, c.size, .nilFunc⟩ → VR ρ' (k m.nx) v) :
    Good P n dst s ρ m w tmps (newK m (.cells xs) fun a m => putd n dst (k a) t m) := by
  obtain ⟨h, nx, wm⟩ := m
  have hsub : ρ.sub (ρ.upd nx ⟨w.heap.size, 0, c.size, .nilFunc⟩) := Rho.upd_sub _ hs.fresh
  obtain ⟨h1, h2⟩ := new_block hs (.cells xs) c.size (.cells c el) (w' := ({ w with drawn := d } : World).alloc (.cells c el)) rfl rfl rfl rfl (objR_new' (w := { w with drawn := d }) (VRs.mono hsub _ _ hx) hp)
  exact good_put ht (gives_value hr) h1 h2 (hv _ (Rho.upd_same _ _ _))
theorem grow_block {ρ : Rho} {h : Tr RO} {nx wm : Pos} {w w' : World} (hs : Sim ρ ⟨h, nx, wm⟩ w) {a : Pos} {b : Blk} (ha : ρ a = some b) (hl : ((Hp.mk h nx wm).at a).wr) (o : RO) (sh : Nat)
    (hsz : w'.heap.size = w.heap.size) (hh : ∀ r, r ≠ b.r → w'.heap[r]? = w.heap[r]?) (h1 : w'.os = w.os) (h2 : w'.tape = w.tape) (h3 : w'.output = w.output)
    (ho : ∀ ρ' : Rho, ρ.sub ρ' → ObjR ρ' o ⟨b.r, sh, b.N, .nilFunc⟩ w') :
    Ext ρ ⟨h, nx, wm⟩ w (ρ.upd nx ⟨b.r, sh, b.N, .nilFunc⟩) ⟨Tr.set .dead nx o (Tr.set .dead a .dead h), nx.succ, Pos.min a wm⟩ w' ∧
      Sim (ρ.upd nx ⟨b.r, sh, b.N, .nilFunc⟩) ⟨Tr.set .dead nx o (Tr.set .dead a .dead h), nx.succ, Pos.min a wm⟩ w' := by
  obtain ⟨e1, s1⟩ := put_block (o := .dead) hs ha hl hsz hh h1 h2 h3 trivial
  have hm : (Hp.mk h nx wm).put a .dead = ⟨Tr.set .dead a .dead h, nx, Pos.min a wm⟩ := rfl
  rw [hm] at e1 s1
  have hf : ρ nx = Option.none := hs.fresh
  have hsub : ρ.sub (ρ.upd nx ⟨b.r, sh, b.N, .nilFunc⟩) := Rho.upd_sub _ hf
  refine ⟨⟨hsub, ?_, ?_, ?_, ?_, ?_, e1.wm, e1.size, e1.frame, h1, h2, h3⟩, ⟨?_, ?_, ?_, ?_⟩⟩
  · intro x y hx hn
    by_cases e : x = nx
    · subst e; rw [Rho.upd_same] at hx; cases hx
      exact ⟨Nat.le_refl _, .inr ⟨a, b, ha, rfl, hl, by show (Pos.min a wm).num ≤ _; rw [Pos.num_min]; omega⟩⟩
    · rw [Rho.upd_ne _ _ e, hn] at hx; cases hx
  · intro x h1 h2
    have h1 : nx.num ≤ x.num := h1
    have h2 : x.num < nx.succ.num := h2
    rw [Pos.num_succ] at h2
    have e : x = nx := Pos.num_inj (by omega)
    exact ⟨_, by rw [e, Rho.upd_same]⟩
  · intro x y hx hd
    rw [Hp.at_new, if_neg (fun e => by rw [e, hf] at hx; cases hx)]; exact e1.dead x y hx hd
  · intro x hx hx2
    rw [Hp.at_new, if_neg (fun e => by rw [e] at hx; exact Nat.lt_irrefl _ hx)]; exact e1.rframe x hx hx2
  · show nx.num ≤ nx.succ.num; rw [Pos.num_succ]; omega
  · intro x y hx
    show x.num < nx.succ.num
    rw [Pos.num_succ]
    by_cases e : x = nx
    · subst e; omega
    · rw [Rho.upd_ne _ _ e] at hx; exact Nat.lt_succ_of_lt (hs.lt _ _ hx)
  · intro x y hx hd
    by_cases e : x = nx
    · subst e; rw [Rho.upd_same] at hx; cases hx; rw [hsz]; exact hs.rlt a b ha hl.ne
    · rw [Rho.upd_ne _ _ e] at hx
      rw [Hp.at_new, if_neg e] at hd
      exact s1.rlt _ _ hx hd
  · intro x y hx
    rw [Hp.at_new]
    by_cases e : x = nx
    · subst e; rw [Rho.upd_same] at hx; cases hx; simpa using ho _ hsub
    · rw [Rho.upd_ne _ _ e] at hx; simp only [e, if_false]; exact (s1.obj _ _ hx).mono hsub rfl
  · intro x y x' y' hx hx' hr hd hd'
    rw [Hp.at_new] at hd hd'
    by_cases e : x = nx <;> by_cases e' : x' = nx
    · rw [e, e']
    · exfalso
      subst e; rw [Rho.upd_same] at hx; cases hx
      rw [Rho.upd_ne _ _ e'] at hx'
      simp only [e', if_false] at hd'
      by_cases ea : x' = a
      · subst ea; exact hd' (by rw [← hm, Hp.at_put]; simp)
      · rw [← hm, Hp.at_put] at hd'; simp only [ea, if_false] at hd'
        exact ea (hs.inj _ _ _ _ ha hx' hr hl hd').symm
    · exfalso
      subst e'; rw [Rho.upd_same] at hx'; cases hx'
      rw [Rho.upd_ne _ _ e] at hx
      simp only [e, if_false] at hd
      by_cases ea : x = a
      · subst ea; rw [← hm, Hp.at_put] at hd; simp only [if_true] at hd; exact hd
      · rw [← hm, Hp.at_put] at hd; simp only [ea, if_false] at hd
        exact ea (hs.inj _ _ _ _ hx ha hr hd hl.ne)
    · rw [Rho.upd_ne _ _ e] at hx; rw [Rho.upd_ne _ _ e'] at hx'
      simp only [e, e', if_false] at hd hd'
      exact s1.inj _ _ _ _ hx hx' hr hd hd'
theorem run_append_room_at (t tx ty e : TypeId) (i : TypeInfo) (ht : P.underlying t = some (.slice e)) (hi : P.info? e = some i) (b off sLen sCap : Nat) (x : Value) (n : Nat) (news : List Value) (hs : Src P i.size tx x n news w)
    (hroom : sLen + n ≤ sCap) {w' : World} (hst : (storeCells ⟨b, off + sLen * i.size, Option.none⟩ news 0).run P w = .ok () w') :
    (Builtin.append_ #[t, tx] ty #[.slice (some ⟨b, off, Option.none⟩) sLen sCap, x]).run P w = .ok (.slice (some ⟨b, off, Option.none⟩) (sLen + n) sCap) w' := by
  rcases hs.kind with ⟨e', hk⟩ | hk <;> simp [Builtin.append_, run_underlying ht, run_underlying hk, sizeOf, typeInfo, hi, hs.len, hroom, hs.cells, Addr.add_lit, hst]
theorem grown_ge (w : World) {need old : Nat} {e : TypeId} : need ≤ grownCap w need old e := by
  unfold grownCap Question.cut; simp only []; omega
theorem room_spec {n by_ : Nat} (h : room n by_ = true) : n ≤ 1099511627776 ∧ (2 * n) * by_ ≤ 281474976710656 := by
  unfold room at h
  split at h
  · rename_i h1; exact ⟨by simpa using h1, by simpa using h⟩
  · cases h
theorem kill_new {ρ : Rho} {h : Tr RO} {nx wm : Pos} {w w' : World} (hs : Sim ρ ⟨h, nx, wm⟩ w) {a : Pos} {b : Blk} (ha : ρ a = some b) (hl : ((Hp.mk h nx wm).at a).wr) (o : RO) (N : Nat) (ob : Obj)
    (hh : w'.heap = w.heap.push ob) (h1 : w'.os = w.os) (h2 : w'.tape = w.tape) (h3 : w'.output = w.output)
    (ho : ObjR (ρ.upd nx ⟨w.heap.size, 0, N, .nilFunc⟩) o ⟨w.heap.size, 0, N, .nilFunc⟩ w') :
    Ext ρ ⟨h, nx, wm⟩ w (ρ.upd nx ⟨w.heap.size, 0, N, .nilFunc⟩) ⟨Tr.set .dead nx o (Tr.set .dead a .dead h), nx.succ, Pos.min a wm⟩ w' ∧
      Sim (ρ.upd nx ⟨w.heap.size, 0, N, .nilFunc⟩) ⟨Tr.set .dead nx o (Tr.set .dead a .dead h), nx.succ, Pos.min a wm⟩ w' := by
  obtain ⟨e1, s1⟩ := put_block (o := .dead) hs ha hl rfl (fun _ _ => rfl) rfl rfl rfl trivial (w' := w)
  have hm : (Hp.mk h nx wm).put a .dead = ⟨Tr.set .dead a .dead h, nx, Pos.min a wm⟩ := rfl
  rw [hm] at e1 s1
  obtain ⟨e2, s2⟩ := new_block s1 o N ob hh h1 h2 h3 ho
  exact ⟨e1.trans e2, s2⟩
theorem place_list {α : Type} (c news : List α) (off k : Nat) (h : off + k + news.length ≤ c.length) :
    ((c.take (off + k) ++ news ++ c.drop (off + k + news.length)).drop off).take (k + news.length) = (c.drop off).take k ++ news := by
  have := over_list c news off k (k + news.length) (by omega) (by omega)
  rw [← this]
  have e1 : ((c.drop off).take (k + news.length)).take k = (c.drop off).take k := by rw [List.take_take]; congr 1; omega
  have e2 : ((c.drop off).take (k + news.length)).drop (k + news.length) = [] := by
    apply List.drop_eq_nil_of_le; rw [List.length_take]; omega
  rw [e1, e2, List.append_nil]
theorem good_append {dst : Option Tmp} {s : Sem Next} (ht : TR ρ n t tmps) (hs : Sim ρ m w) {tt tx ty e ex : TypeId} {i : TypeInfo} {z : Value} (hu : P.underlying tt = some (.slice e)) (hux : P.underlying tx = some (.slice ex))
    (hi : P.info? e = some i) (hz : i.zero = some z) (hzs : z.cells.size = i.size) {x y : RV} {vx vy : Value} (hx : VR ρ x vx) (hy : VR ρ y vy)
    (hrun : ∀ v w', (Builtin.append_ #[tt, tx] ty #[vx, vy]).run P w = .ok v w' → s.run P w = .ok (.value v) w') :
    Good P n dst s ρ m w tmps (appendO i.size i.bytes (putd n dst) x y t m) := by
  unfold appendO
  have nothing : Src P i.size tx vy 0 [] w → Good P n dst s ρ m w tmps (x.sliceE (putd n dst .nilSlice t m) fun a o l c u => putd n dst (.slice a o l c u) t m) := by
    intro hsrc
    refine good_sliceE (fun he => ?_) fun a o l c u he => ?_
    · subst he
      have hx' := hx
      simp only [VR] at hx'; subst hx'
      exact good_same ht hs (hrun _ _ (run_append_nothing w tt tx ty e i hu hi Option.none 0 0 (Nat.le_refl _) vy hsrc)) hx
    · subst he
      have hx' := hx
      simp only [VR] at hx'
      obtain ⟨b, off, c', hb, rfl, h1, h2, _⟩ := hx'
      exact good_same ht hs (hrun _ _ (run_append_nothing w tt tx ty e i hu hi _ _ _ (by omega) vy hsrc)) hx
  refine good_sliceE (fun he => ?_) fun a o l c u he => ?_
  · subst he
    simp only [VR] at hy; subst hy
    exact nothing (Src.ofNil w hux 0)
  cases l with
  | zero =>
    subst he
    simp only [VR] at hy
    obtain ⟨b, off, c', hb, rfl, _⟩ := hy
    exact nothing (Src.ofSlice w hux _ 0 c' [] (by simp) (fun j u hu => by simp at hu) (fun u hu => by simp at hu))
  | succ l =>
    simp only []
    refine good_firstK hs hy fun new news a' o' l' c1 u' by_ offy cy ccy ely fzy csy he' hby hvy _ _ _ _ _ _ _ _ hnews hnew hnl hfirst => ?_
    rw [he] at he'; cases he'
    subst he hvy
    have hnl' : news.length = (l + 1) * i.size := by rw [← hnew.length]; exact hnl
    have hfw : (Builtin.firstCells i.size (l + 1) (.slice (some ⟨by_.r, offy, Option.none⟩) (l + 1) cy)).run P w = .ok news.toArray w := hfirst w.drawn
    have src : (∀ u ∈ news, u.oneCell' = true) → Src P i.size tx (.slice (some ⟨by_.r, offy, Option.none⟩) (l + 1) cy) (l + 1) news w := fun h1 =>
      ⟨.inl ⟨_, hux⟩, fun _ => rfl, hfw, hfirst (w.drawn + 1), hnl', h1⟩
    have cellsOk : allCells new = true → ∀ u ∈ news, u.oneCell' = true := by
      intro hall u hu
      rw [allCells_eq] at hall
      obtain ⟨j, hj⟩ := List.getElem?_of_mem hu
      have hl := hnew.length
      have hjl : j < new.length := by rw [hl]; exact (List.getElem?_eq_some_iff.1 hj).1
      obtain ⟨u', hu1, hu2⟩ := hnew.get j _ (List.getElem?_eq_getElem hjl)
      rw [hj] at hu1; cases hu1
      exact hu2.oneCell (hall _ (List.getElem_mem hjl))
    have grow : ∀ (base : Option Addr) (sLen sCap : Nat) (olds : List Value), vx = .slice base sLen sCap → olds.length = sLen * i.size →
        (Builtin.firstCells i.size sLen (.slice base sLen sCap)).run P w.drew = .ok olds.toArray w.drew → sCap < sLen + (l + 1) → room (sLen + (l + 1)) i.bytes = true →
        ∃ (c : Array Value), s.run P w = .ok (.value (.slice (some ⟨w.heap.size, 0, Option.none⟩) (sLen + (l + 1)) (grownCap w (sLen + (l + 1)) sCap e))) (w.drew.alloc (.cells c e)) ∧
          (∃ r, c.toList = (olds ++ news) ++ r) ∧ sLen + (l + 1) ≤ grownCap w (sLen + (l + 1)) sCap e ∧ grownCap w (sLen + (l + 1)) sCap e * i.size ≤ c.size := by
      intro base sLen sCap olds hvx hol hfo hg hroom
      subst hvx
      obtain ⟨r1, r2⟩ := room_spec hroom
      have hfit : Builtin.nextslicecap (sLen + (l + 1)) sCap * i.bytes ≤ 281474976710656 :=
        Nat.le_trans (Nat.mul_le_mul_right _ (nextslicecap_le hg)) r2
      have hge := grown_ge w (need := sLen + (l + 1)) (old := sCap) (e := e)
      have hrun' : (Builtin.append_ #[tt, tx] ty #[.slice base sLen sCap, .slice (some ⟨by_.r, offy, Option.none⟩) (l + 1) cy]).run P w =
          .ok (.slice (some ⟨w.heap.size, 0, Option.none⟩) (sLen + (l + 1)) (grownCap w (sLen + (l + 1)) sCap e))
            (w.drew.alloc (.cells ((olds ++ news).toArray ++ Builtin.zeroCells z.cells (grownCap w (sLen + (l + 1)) sCap e - (sLen + (l + 1)))) e)) := by
        have hn : ¬ (sLen + (l + 1) ≤ sCap) := by omega
        have h63' : ¬ (9223372036854775807 < ((sLen : Int) + ((l : Int) + 1))) := by omega
        have h48' : ¬ (281474976710656 < Builtin.nextslicecap (sLen + (l + 1)) sCap * i.bytes) := by omega
        have hfd' : (Builtin.firstCells i.size (l + 1) (.slice (some ⟨by_.r, offy, Option.none⟩) (l + 1) cy)).run P w.drew = .ok news.toArray w.drew := hfirst (w.drawn + 1)
        simp [Builtin.append_, run_underlying hu, run_underlying hux, sizeOf, typeInfo, zeroValue, hi, hz, Builtin.lenOf, hn, h63', h48', Question.forced, hfd', hfo, newRow, grownCap]
        congr 2
        apply Array.ext'
        simp [List.append_assoc]
      refine ⟨_, hrun _ _ hrun', ⟨(Builtin.zeroCells z.cells (grownCap w (sLen + (l + 1)) sCap e - (sLen + (l + 1)))).toList, by simp⟩, hge, ?_⟩
      simp only [Array.size_append, List.size_toArray, List.length_append, size_zeroCells, hzs, hol, hnl']
      rw [← Nat.add_mul, ← Nat.add_mul]
      exact Nat.mul_le_mul_right _ (by omega)
    unfold appendS
    refine good_sliceE (fun hxe => ?_) fun a₀ o₀ l₀ c₀ u₀ hxe => ?_
    ·
      subst hxe
      simp only [VR] at hx; subst hx
      refine good_iteK (fun hroom => ?_) fun _ => good_bad
      obtain ⟨c, hr, hp, hge, hN⟩ := grow Option.none 0 0 [] rfl (by simp) (run_firstCells_none _ _ _ _ _) (by omega) (by simpa using hroom)
      simp only [Nat.zero_add] at hr hge hN
      refine good_new' ht hs (d := w.drawn + 1) (k := fun b => .slice b 0 (l + 1) (l + 1) (some i.size)) hr hnew (by simpa using hp) ?_
      intro ρ' hρ
      simp only [VR]
      exact ⟨_, 0, _, hρ, rfl, Nat.le_refl _, hge, .inr rfl, by simpa using hN⟩
    · subst hxe
      have hxv := hx
      simp only [VR] at hxv
      obtain ⟨b, off, c', hb, hve, h1, h2, h3, h4⟩ := hxv
      refine good_iteK (fun hle => good_iteK (fun hall => good_cellsK fun cs hc => good_lputK fun hfit => ?_) fun _ => good_bad) fun hgt => good_iteK (fun hroom => ?_) fun _ => good_bad
      ·
        subst hve
        have hle' : l₀ + (l + 1) ≤ c₀ := by simpa using hle
        have hoff : off = b.sh + o₀ := by rcases h3 with h3 | h3; (exfalso; omega); exact h3
        subst hoff
        have hsrc := src (cellsOk hall)
        obtain ⟨w', hr, e1, s1⟩ := objR_put (P := P) hs hb hc (o := o₀ + l₀ * i.size) hnew hfit (cellsOk hall)
        have hr' : (storeCells ⟨b.r, b.sh + o₀ + l₀ * i.size, Option.none⟩ news 0).run P w = .ok () w' := by rw [Nat.add_assoc]; exact hr
        refine good_put ht (gives_value (hrun _ _ (run_append_room_at tt tx ty e i hu hi b.r (b.sh + o₀) l₀ c' _ (l + 1) news hsrc (by omega) hr'))) e1 s1 ?_
        simp only [VR]
        exact ⟨b, _, c', hb, rfl, hle', h2, .inr rfl, h4⟩
      · have hgt' : c₀ < l₀ + (l + 1) := by
          have : ¬ (l₀ + (l + 1) ≤ c₀) := by intro hh; rw [show Nat.ble (l₀ + (l + 1)) c₀ = true from by simpa using hh] at hgt; cases hgt
          omega
        refine good_firstK hs hx fun old olds a1 o1 l1 c1 u1 b1 off1 c1' cc el fz cs he1 hb1 hv1 _ _ _ _ hlive hheap hN hfits holds hold holdl hfo => ?_
        cases he1
        rw [hb] at hb1; cases hb1
        rw [hve] at hv1; cases hv1
        subst hve
        have hol : olds.length = l₀ * i.size := by rw [← hold.length]; exact holdl
        cases u₀ with
        | none =>
          simp only [] at h4 ⊢; subst h4
          obtain ⟨c, hr, hp, hge, hNc⟩ := grow (some ⟨b.r, off, Option.none⟩) l₀ c' olds rfl hol (hfo (w.drawn + 1)) hgt' hroom
          refine good_new' ht hs (d := w.drawn + 1) (k := fun b => .slice b 0 (l₀ + (l + 1)) (l₀ + (l + 1)) (some i.size)) hr (hold.append hnew) hp ?_
          intro ρ' hρ
          simp only [VR]
          exact ⟨_, 0, _, hρ, rfl, Nat.le_refl _, hge, .inr rfl, by simpa using hNc⟩
        | some z₀ =>
          simp only [] at h4 ⊢
          refine good_iteK (fun hzz => good_iteK (fun hall => good_cellsK fun cs2 hcs2 => ?_) fun _ => good_bad) fun _ => good_bad
          have hzz' : z₀ = i.size := by simpa using hzz
          subst hzz'
          obtain ⟨hh, nx, wm⟩ := m
          have hdead : ((Hp.mk hh nx wm).at a₀).wr := by rw [hcs2]; trivial
          have hfz : fz = (0, 0) := by
            obtain ⟨cc2, el2, q1, _⟩ := hs.cells hb hcs2
            rw [hheap] at q1
            cases q1; rfl
          subst hfz
          by_cases hcap : l₀ + (l + 1) ≤ c'
          ·
            have hoff : off = b.sh + o₀ := by rcases h3 with h3 | h3; (exfalso; omega); exact h3
            subst hoff
            have hsrc := src (cellsOk hall)
            have hroomc : b.sh + o₀ + l₀ * i.size + news.length ≤ cc.size := by
              rw [hnl', hN]
              have : (l₀ + (l + 1)) * i.size ≤ c' * i.size := Nat.mul_le_mul_right _ hcap
              rw [Nat.add_mul] at this
              omega
            have hst := run_storeCells_at (P := P) b.r (b.sh + o₀ + l₀ * i.size) el news 0 cc w hheap (by simpa using hroomc) (cellsOk hall)
            simp only [Nat.add_zero] at hst
            obtain ⟨e1, s1⟩ := grow_block hs hb hdead (.cells (old ++ new)) (b.sh + o₀) (w' := w.setRow b.r (cc.toList.take (b.sh + o₀ + l₀ * i.size) ++ news ++ cc.toList.drop (b.sh + o₀ + l₀ * i.size + news.length)).toArray)
              (by simp [World.setRow]) (fun r hr => setRow_other w _ _ _ hr) rfl rfl rfl (fun ρ' hsub => by
                refine ⟨_, el, setRow_heap w _ _ _ _ _ hheap, ?_, ?_, ?_⟩
                · simp; omega
                · show b.sh + o₀ + _ ≤ b.N
                  rw [List.length_append, holdl, hnl, ← hN]; rw [hnl'] at hroomc; omega
                · rw [List.length_append, holdl, hnew.length]
                  show VRs ρ' (old ++ new) (List.take _ (List.drop _ (cc.toList.take (b.sh + o₀ + l₀ * i.size) ++ news ++ cc.toList.drop (b.sh + o₀ + l₀ * i.size + news.length))))
                  rw [place_list _ _ _ _ (by simpa using hroomc), ← holds]
                  exact VRs.mono hsub _ _ (hold.append hnew))
            refine good_put ht (gives_value (hrun _ _ (run_append_room_at tt tx ty e i hu hi b.r (b.sh + o₀) l₀ c' _ (l + 1) news hsrc hcap hst))) e1 s1 ?_
            simp only [VR]
            exact ⟨_, _, c', Rho.upd_same _ _ _, rfl, Nat.le_refl _, hcap, .inr rfl, h4⟩
          ·
            obtain ⟨c, hr, hp, hge, hNc⟩ := grow (some ⟨b.r, off, Option.none⟩) l₀ c' olds rfl hol (hfo (w.drawn + 1)) (by omega) hroom
            have hsub : ρ.sub (ρ.upd nx ⟨w.heap.size, 0, c.size, .nilFunc⟩) := Rho.upd_sub _ hs.fresh
            obtain ⟨e1, s1⟩ := kill_new hs hb hdead (.cells (old ++ new)) c.size (.cells c e) (w' := w.drew.alloc (.cells c e)) rfl rfl rfl rfl
              (objR_new' (w := w.drew) (VRs.mono hsub _ _ (hold.append hnew)) hp)
            refine good_put ht (gives_value hr) e1 s1 ?_
            simp only [VR]
            exact ⟨_, 0, _, Rho.upd_same _ _ _, rfl, Nat.le_refl _, hge, .inr rfl, by simpa using hNc⟩
end
end Go.Ref
end
section
namespace Go.Ref
open Go
section
variable {P : Program} {n : Nat} {ρ : Rho} {m : Hp} {w : World} {tmps : Array Value} {t : Tr RV} {o : Oper}
theorem und_of {P : Program} {ty : TypeId} {d : TypeDesc} (h : und P ty = d) (hd : d ≠ .invalid) : P.underlying ty = some d := by
  unfold und at h
  cases hu : P.underlying ty with
  | none => simp [hu] at h; exact absurd h.symm hd
  | some d' => simp [hu] at h; rw [h]
theorem good_pick (ht : TR ρ n t tmps) (hs : Sim ρ m w) {c a b : Operand} (ho : o.op = .pick c a b) :
    Good P n o.dst (execOp (evT tmps) o) ρ m w tmps ((cOpd c t).boolK fun v => iteK v (putd n o.dst (cOpd a t) t m) (putd n o.dst (cOpd b t) t m)) := by
  have hc := cOpd_VR ht c
  refine good_boolK fun v hv => ?_
  rw [hv] at hc
  simp only [VR] at hc
  refine good_iteK (fun h => ?_) fun h => ?_
  · subst h; exact good_same ht hs (by simp [execOp, ho, hc, asBool]) (cOpd_VR ht a)
  · subst h; exact good_same ht hs (by simp [execOp, ho, hc, asBool]) (cOpd_VR ht b)
theorem good_nilCheck (ht : TR ρ n t tmps) (hs : Sim ρ m w) {x : Operand} (ho : o.op = .nilCheck x) :
    Good P n o.dst (execOp (evT tmps) o) ρ m w tmps (match cOpd x t with | .ptr a o' => putd n o.dst (.ptr a o') t m | _ => .bad) := by
  have hx := cOpd_VR ht x
  split
  · rename_i a o' he
    rw [he] at hx
    have hx' := hx
    simp only [VR] at hx'
    obtain ⟨b, hb, hv⟩ := hx'
    exact good_same ht hs (by simp [execOp, ho, hv]) hx
  · exact good_bad
theorem good_makeInterface (ht : TR ρ n t tmps) (hs : Sim ρ m w) {ty : TypeId} {x : Operand} (ho : o.op = .makeInterface ty x) {d : TypeDesc} (hu : P.underlying ty = some d) (hd : ∀ ms, d ≠ .interface ms) :
    Good P n o.dst (execOp (evT tmps) o) ρ m w tmps (putd n o.dst (.iface ty (cOpd x t)) t m) := by
  refine good_same ht hs ?_ (by simp only [VR]; exact ⟨_, rfl, cOpd_VR ht x⟩)
  cases d <;> first | (simp [execOp, ho, Instr.makeInterface, run_underlying hu]; done) | exact absurd rfl (hd _)
theorem VRs_argsOf {ρ : Rho} (ht : TR ρ n t tmps) : ∀ l : List Operand, VRs ρ (argsOf (l.map cOpd) t) (l.map (evT tmps))
  | [] => VRs.nil
  | x :: l => VRs.cons (cOpd_VR ht x) (VRs_argsOf ht l)
theorem good_makeFunc (ht : TR ρ n t tmps) (hs : Sim ρ m w) {f : FuncId} {a b : Array Operand} (ho : o.op = .makeFunc (.func f) a b) :
    Good P n o.dst (execOp (evT tmps) o) ρ m w tmps (putd n o.dst (.func (.func f) (argsOf (a.toList.map cOpd) t) (argsOf (b.toList.map cOpd) t)) t m) := by
  refine good_same ht hs (v := .func (.func f) (a.map (evT tmps)) (b.map (evT tmps))) ?_ ?_
  · simp [execOp, ho, Instr.makeFunc]
  · simp only [VR]
    exact ⟨_, _, rfl, by simpa using VRs_argsOf ht a.toList, by simpa using VRs_argsOf ht b.toList⟩
theorem good_extract (ht : TR ρ n t tmps) (hs : Sim ρ m w) {x : Operand} {i : Nat} (ho : o.op = .extract x i) :
    Good P n o.dst (execOp (evT tmps) o) ρ m w tmps ((cOpd x t).tupleK fun l => lnth i l fun v => putd n o.dst v t m) := by
  have hx := cOpd_VR ht x
  refine good_tupleK fun l hl => good_lnth fun y hy => ?_
  rw [hl] at hx
  simp only [VR] at hx
  obtain ⟨cs, hv, hcs⟩ := hx
  obtain ⟨u, hu, hr⟩ := hcs.get i y hy
  exact good_same ht hs (by simp [execOp, ho, hv, Instr.extract, show cs[i]? = some u from by simpa using hu]) hr
theorem structF_some {P : Program} {ty : TypeId} {f : Nat} {fd : Field} (h : (structF P ty).bind (fun fs => fs[f]?) = some fd) : ∃ fs, P.underlying ty = some (.struct fs) ∧ fs[f]? = some fd := by
  unfold structF at h
  cases hu : und P ty with
  | struct fs => rw [hu] at h; exact ⟨fs, und_of hu (by simp), by simpa using h⟩
  | _ => rw [hu] at h; simp at h
theorem good_fieldAddr (ht : TR ρ n t tmps) (hs : Sim ρ m w) {call : CallF} {ty : TypeId} {x : Operand} {f : Nat} (ho : o.op = .fieldAddr ty x f) :
    Good P n o.dst (execOp (evT tmps) o) ρ m w tmps (cFieldAddr P (putd n o.dst) ty x f call t m) := by
  unfold cFieldAddr
  cases hf : (structF P ty).bind (fun fs => fs[f]?) with
  | none => exact good_bad
  | some fd =>
    obtain ⟨fs, hu, hfd⟩ := structF_some hf
    cases hsz : size P fd.type with
    | zero => simp only [hsz]; exact good_bad
    | succ k =>
      simp only [hsz]
      have hx := cOpd_VR ht x
      refine good_ptrK fun a o' he => ?_
      rw [he] at hx
      simp only [VR] at hx
      obtain ⟨b, hb, hv⟩ := hx
      have hsz' : ∃ i, P.info? fd.type = some i ∧ i.size = k + 1 := by
        unfold size Program.cellsOf at hsz
        cases hi : P.info? fd.type with
        | none => simp [hi] at hsz
        | some i => exact ⟨i, rfl, by simpa [hi] using hsz⟩
      obtain ⟨i, hi, his⟩ := hsz'
      refine good_same ht hs (v := .pointer (some ⟨b.r, b.sh + o' + fd.offset, Option.none⟩)) ?_ (by simp only [VR]; exact ⟨b, hb, by rw [Nat.add_assoc]⟩)
      simp [execOp, ho, hv, Instr.fieldAt, run_underlying hu, hfd, Instr.sureAddr, fieldPlace, sizeOf, typeInfo, hi, his, Addr.add_mid]
theorem isAgg_true {P : Program} {ty : TypeId} (h : aggT P ty = true) (w : World) : (isAgg ty).run P w = .ok true w := by
  obtain ⟨d, hu, hr⟩ := und_agg h
  clear h
  unfold isAgg
  rw [Sem.run_bind, run_underlying hu w]
  cases d <;> simp_all
theorem run_part {P : Program} {ty : TypeId} {d : TypeDesc} (hu : P.underlying ty = some d) {cs : Array Value} {off : Nat} (w : World) :
    (part ty cs off).run P w = (if aggT P ty = true then .ok (.agg (cs.extract off (off + size P ty))) w else match cs[off]? with | some v => .ok v w | Option.none => .halt (.stuck "part: no such cell") w) := by
  obtain ⟨i, hi, hsz⟩ := info_of_und hu
  cases h : aggT P ty with
  | true =>
    simp [part, isAgg_true h, sizeOf, typeInfo, hi, hsz]
  | false => simp [part, isAgg_false h hu]; cases cs[off]? <;> simp [stuck]
theorem VRs_extract {ρ : Rho} {l : List RV} {cs : Array Value} (h : VRs ρ l cs.toList) (off k : Nat) : VRs ρ ((l.drop off).take k) (cs.extract off (off + k)).toList := by
  have := (h.drop off).take k
  rw [Array.toList_extract, List.extract_eq_take_drop]
  rw [show off + k - off = k from by omega]
  exact this
theorem good_field (ht : TR ρ n t tmps) (hs : Sim ρ m w) {call : CallF} {ty : TypeId} {x : Operand} {f : Nat} (ho : o.op = .field ty x f) :
    Good P n o.dst (execOp (evT tmps) o) ρ m w tmps (cField P (putd n o.dst) ty x f call t m) := by
  unfold cField
  cases hf : (structF P ty).bind (fun fs => fs[f]?) with
  | none => exact good_bad
  | some fd =>
    simp only []
    obtain ⟨fs, hu, hfd⟩ := structF_some hf
    have hx := cOpd_VR ht x
    cases hagg : aggT P fd.type with
    | true =>
      obtain ⟨d, hfu, _⟩ := und_agg hagg
      simp only []
      refine good_aggK fun l hl => good_ltakeK fun hle => ?_
      rw [ldrop_eq] at hle ⊢
      rw [hl] at hx
      simp only [VR] at hx
      obtain ⟨cs, hv, hcs⟩ := hx
      refine good_same ht hs (v := .agg (cs.extract fd.offset (fd.offset + size P fd.type))) ?_ (by simp only [VR]; exact ⟨_, rfl, VRs_extract hcs _ _⟩)
      simp [execOp, ho, hv, Instr.field, run_underlying hu, hfd, asAgg, run_part hfu, hagg]
    | false =>
      simp only []
      by_cases hval : validT P fd.type = true
      case neg => rw [if_neg hval]; exact good_bad
      rw [if_pos hval]
      obtain ⟨d, hfu⟩ := validT_und hval
      refine good_aggK fun l hl => good_lnth fun y hy => ?_
      rw [hl] at hx
      simp only [VR] at hx
      obtain ⟨cs, hv, hcs⟩ := hx
      obtain ⟨u, hu1, hr⟩ := hcs.get _ _ hy
      refine good_same ht hs (v := u) ?_ hr
      simp [execOp, ho, hv, Instr.field, run_underlying hu, hfd, asAgg, run_part hfu, hagg, show cs[fd.offset]? = some u from by simpa using hu1]
theorem good_indexAddr (ht : TR ρ n t tmps) (hs : Sim ρ m w) {call : CallF} {ty : TypeId} {x i : Operand} (ho : o.op = .indexAddr ty x i) :
    Good P n o.dst (execOp (evT tmps) o) ρ m w tmps (cIndexAddr P (putd n o.dst) ty x i call t m) := by
  unfold cIndexAddr
  have hx := cOpd_VR ht x
  have hi := cOpd_VR ht i
  cases hu : und P ty
  case slice e =>
    simp only []
    have hu' := und_of hu (by simp)
    by_cases hval : validT P e = true
    case neg => rw [if_neg hval]; exact good_bad
    rw [if_pos hval]
    obtain ⟨d, hd⟩ := validT_und hval
    obtain ⟨inf, hinf, hsz⟩ := info_of_und hd
    refine good_sliceE (fun _ => good_bad) fun a o' l c u he => ?_
    rw [he] at hx
    simp only [VR] at hx
    obtain ⟨b, off, c', hb, hv, h1, h2, h3, h4⟩ := hx
    refine good_natK fun k j hj => good_iteK (fun hlt => ?_) fun _ => good_bad
    rw [hj] at hi
    simp only [VR] at hi
    have hlt' : j < l := by simpa [Nat.blt_eq] using hlt
    have hoff : off = b.sh + o' := by rcases h3 with h3 | h3; (exfalso; omega); exact h3
    subst hoff
    refine good_same ht hs (v := .pointer (some ⟨b.r, b.sh + o' + j * size P e, Option.none⟩)) ?_ (by simp only [VR]; exact ⟨b, hb, by rw [Nat.add_assoc]⟩)
    simp [execOp, ho, hv, hi, Instr.indexAt, asIntOf, run_underlying hu', sizeOf, typeInfo, hinf, hsz, Addr.add_mid, hlt']
  case array len e =>
    simp only []
    have hu' := und_of hu (by simp)
    by_cases hval : validT P e = true
    case neg => rw [if_neg hval]; exact good_bad
    rw [if_pos hval]
    obtain ⟨d, hd⟩ := validT_und hval
    obtain ⟨inf, hinf, hsz⟩ := info_of_und hd
    refine good_ptrK fun a o' he => good_natK fun k j hj => good_iteK (fun hlt => ?_) fun _ => good_bad
    rw [he] at hx
    simp only [VR] at hx
    obtain ⟨b, hb, hv⟩ := hx
    rw [hj] at hi
    simp only [VR] at hi
    have hlt' : j < len := by simpa [Nat.blt_eq] using hlt
    refine good_same ht hs (v := .pointer (some ⟨b.r, b.sh + o' + j * size P e, Option.none⟩)) ?_ (by simp only [VR]; exact ⟨b, hb, by rw [Nat.add_assoc]⟩)
    simp [execOp, ho, hv, hi, Instr.indexAt, asIntOf, run_underlying hu', Instr.sureAddr, sizeOf, typeInfo, hinf, hsz, Addr.add_mid, hlt']
  all_goals exact good_bad
theorem wrapI_eq (k : IntKind) (n : Int) : wrapI k n = k.wrap n := by
  cases k <;> try rfl
  unfold wrapI
  cases n with
  | ofNat m =>
    simp only []
    cases h : Nat.ble m 9223372036854775807 with
    | false => rfl
    | true =>
      have h' : m ≤ 9223372036854775807 := by simpa using h
      exact (IntWalk.i64_in (Int.ofNat m) (by simp only [Int.ofNat_eq_natCast]; omega)).symm
  | negSucc m =>
    simp only []
    cases h : Nat.ble m 9223372036854775807 with
    | false => rfl
    | true =>
      have h' : m ≤ 9223372036854775807 := by simpa using h
      exact (IntWalk.i64_in (Int.negSucc m) (by simp only [Int.negSucc_eq]; omega)).symm
theorem ieq_eq (a b : Int) : ieq a b = decide (a = b) := by
  cases a <;> cases b <;> simp only [ieq]
  · rename_i m n
    cases h : Nat.beq m n
    · have := Nat.ne_of_beq_eq_false h
      rw [eq_comm, decide_eq_false_iff_not]; simp only [Int.ofNat_eq_natCast]; omega
    · have := Nat.eq_of_beq_eq_true h; simp [this]
  · simp
  · simp
  · rename_i m n
    cases h : Nat.beq m n
    · have := Nat.ne_of_beq_eq_false h; simp [this]
    · have := Nat.eq_of_beq_eq_true h; simp [this]
theorem ble_dec (a b : Nat) : Nat.ble a b = decide (a ≤ b) := by
  cases h : Nat.ble a b
  · have : ¬ a ≤ b := Nat.not_le_of_not_ble_eq_true (by simp [h])
    simp [this]
  · have : a ≤ b := Nat.le_of_ble_eq_true h
    simp [this]
theorem ile_eq (a b : Int) : ile a b = decide (a ≤ b) := by
  cases a <;> cases b <;> simp only [ile, ble_dec, Int.ofNat_eq_natCast, Int.negSucc_eq]
  · simp
  · rw [eq_comm, decide_eq_false_iff_not]; omega
  · rw [eq_comm, decide_eq_true_eq]; omega
  · congr 1; rw [eq_iff_iff]; omega
theorem seq_eq : ∀ (a b : List UInt8), seq (a.map UInt8.toNat) (b.map UInt8.toNat) = (a == b)
  | [], [] => rfl
  | [], _ :: _ => rfl
  | _ :: _, [] => rfl
  | x :: a, y :: b => by
    simp only [List.map_cons, seq]
    cases h : Nat.beq x.toNat y.toNat
    · have h' : x ≠ y := fun e => by subst e; simp at h
      simp [h']
    · have h' : x = y := UInt8.toNat.inj (Nat.eq_of_beq_eq_true h)
      subst h'
      simp only [seq_eq a b]
      simp
theorem slt_eq : ∀ (a b : List UInt8), slt (a.map UInt8.toNat) (b.map UInt8.toNat) = Op.bytesLess a b
  | [], [] => rfl
  | [], _ :: _ => rfl
  | _ :: _, [] => rfl
  | x :: a, y :: b => by
    simp only [List.map_cons, slt, Op.bytesLess]
    have hlt : Nat.blt x.toNat y.toNat = decide (x < y) := by
      rw [show Nat.blt x.toNat y.toNat = Nat.ble (x.toNat + 1) y.toNat from rfl, ble_dec]
      simp [UInt8.lt_iff_toNat_lt]; rfl
    rw [hlt]
    cases h1 : decide (x < y)
    · simp only [Bool.false_or]
      cases h : Nat.beq x.toNat y.toNat
      · have h' : x ≠ y := fun e => by subst e; simp at h
        simp [h']
      · have h' : x = y := UInt8.toNat.inj (Nat.eq_of_beq_eq_true h)
        subst h'
        simp only [slt_eq a b]
        simp
    · simp
end
end Go.Ref
end
section
namespace Go.Ref
open Go
section
variable {P : Program} {n : Nat} {ρ : Rho} {m : Hp} {w : World} {tmps : Array Value} {t : Tr RV} {o : Oper}
theorem toList_data (x : ByteArray) : x.toList = x.data.toList := ByteArray.toList_eq x
theorem VR_bool {ρ : Rho} {b : Bool} : VR ρ (.bool b) (.bool b) := by simp only [VR]
theorem beq_data (x y : ByteArray) : seq (x.data.toList.map UInt8.toNat) (y.data.toList.map UInt8.toNat) = (x.toList == y.toList) := by
  rw [seq_eq, toList_data, toList_data]
theorem lt_data (x y : ByteArray) : slt (x.data.toList.map UInt8.toNat) (y.data.toList.map UInt8.toNat) = Op.bytesLess x.toList y.toList := by
  rw [slt_eq, toList_data, toList_data]
theorem inI_spec (x : Int) (l : List Int) : inI x l = true ↔ x ∈ l := by
  induction l with
  | nil => simp [inI]
  | cons y l ih =>
    have h : inI x (y :: l) = (match ieq x y with | true => true | false => inI x l) := rfl
    rw [h, ieq_eq]
    by_cases e : x = y
    · simp [e]
    · simp [e, ih]
theorem good_binF {dst : Option Tmp} {s : Sem Next} (ht : TR ρ n t tmps) (hs : Sim ρ m w) {ty : TypeId} {op : BinOp} {x y : RV} {vx vy : Value} (hx : VR ρ x vx) (hy : VR ρ y vy)
    (hr : ∀ v, vx ≠ .nilIface → (∀ cs, vx ≠ .agg cs) → (binOp op ty vx vy).run P w = .ok v w → s.run P w = .ok (.value v) w) :
    Good P n dst s ρ m w tmps (binF op x y (putd n dst) t m) := by
  unfold binF
  cases op
  all_goals try exact good_bad
  case add =>
    simp only []
    split
    · simp only [VR] at hx hy; subst hx; subst hy
      refine good_iteK (fun h => ?_) fun _ => good_bad
      have h := of_decide_eq_true h; subst h
      refine good_same ht hs (hr _ (by simp) (by simp) (by simp [binOp, Op.intArith]; rfl)) ?_
      simp only [VR, wrapI_eq]
    · simp only [VR] at hx hy
      obtain ⟨a, rfl, rfl⟩ := hx
      obtain ⟨b, rfl, rfl⟩ := hy
      refine good_iteK (fun h => ?_) fun _ => good_bad
      have h1 : a.data.toList.length + b.data.toList.length ≤ 1000000 := by simpa using h
      have hsz : ¬ (((a.size + b.size : Nat) : Int) > IntKind.i64.max) := by
        have e1 : a.size = a.data.toList.length := by simp
        have e2 : b.size = b.data.toList.length := by simp
        have : IntKind.i64.max = 9223372036854775807 := by decide
        rw [this]; omega
      refine good_same ht hs (hr (.string (a ++ b)) (by simp) (by simp) (by simp only [binOp, Op.stringOp, if_neg hsz]; rfl)) ?_
      simp only [VR]
      exact ⟨_, rfl, by simp⟩
    · exact good_bad
  all_goals
    simp only []
    split
    · simp only [VR] at hx hy; subst hx; subst hy
      refine good_iteK (fun h => ?_) fun _ => good_bad
      have h := of_decide_eq_true h; subst h
      first
      | (refine good_same ht hs (hr _ (by simp) (by simp) (by simp [binOp, Op.intArith]; rfl)) ?_
         simp only [VR, wrapI_eq]; done)
      | (refine good_iteK (fun h => good_bad) fun h0 => ?_
         rw [ieq_eq] at h0
         have h0 := of_decide_eq_false h0
         refine good_same ht hs (hr _ (by simp) (by simp) (by simp [binOp, Op.intDiv, h0]; rfl)) ?_
         simp only [VR, wrapI_eq]; done)
      | (refine good_same ht hs (hr _ (by simp) (by simp) (by simp only [binOp, ne_eq, not_true_eq_false, if_false, Op.intCmp]; rfl)) ?_
         simp only [VR, ieq_eq, ile_eq]
         first
         | done
         | (congr 1; done)
         | (congr 1; rw [Bool.eq_iff_iff]; simp; done))
    all_goals first
      | exact good_bad
      | (simp only [VR] at hx hy
         obtain ⟨a, rfl, rfl⟩ := hx
         obtain ⟨b, rfl, rfl⟩ := hy
         refine good_same ht hs (hr _ (by simp) (by simp) (by simp only [binOp, Op.stringOp]; rfl)) ?_
         simp only [VR, beq_data, lt_data])
      | (simp only [VR] at hx hy
         obtain ⟨b0, n0, hb0, he0, rfl, hne⟩ := hx
         subst hy
         refine good_iteK (fun h => good_iteK (fun h2 => ?_) fun _ => good_bad) fun _ => good_bad
         have h := of_decide_eq_true h; subst h
         rw [inI_spec] at h2
         have hn : ∀ c, c ∈ _ → n0 ≠ c := fun c hc e => hne (e ▸ hc)
         have hn := hn _ h2
         refine good_same ht hs (hr _ (by simp) (by simp) (by simp only [binOp, ne_eq, not_true_eq_false, if_false, Op.intCmp]; rfl)) ?_
         simp only [VR]
         simp [hn])
      | (simp only [VR] at hx hy
         obtain ⟨b0, n0, hb0, he0, rfl, hne⟩ := hy
         subst hx
         refine good_iteK (fun h => good_iteK (fun h2 => ?_) fun _ => good_bad) fun _ => good_bad
         have h := of_decide_eq_true h; subst h
         rw [inI_spec] at h2
         have hn : ∀ c, c ∈ _ → c ≠ n0 := fun c hc e => hne (e ▸ hc)
         have hn := hn _ h2
         refine good_same ht hs (hr _ (by simp) (by simp) (by simp only [binOp, ne_eq, not_true_eq_false, if_false, Op.intCmp]; rfl)) ?_
         simp only [VR]
         simp [hn])
theorem run_eq_flip {ty : TypeId} {vx vy : Value} {flip b : Bool} (h1 : binOp .eql ty vx vy = (do pure (.bool (← Op.equal ty vx vy)))) (h2 : binOp .neq ty vx vy = (do pure (.bool (!(← Op.equal ty vx vy)))))
    (h : ∀ d, (Op.equalIn (d + 1) ty vx vy).run P w = .ok b w) : (binOp (if flip then .neq else .eql) ty vx vy).run P w = .ok (.bool (xor flip b)) w := by
  have h' : (Op.equal ty vx vy).run P w = .ok b w := h 9999
  cases flip
  · show (binOp .eql ty vx vy).run P w = _
    rw [h1]; simp [h']
  · show (binOp .neq ty vx vy).run P w = _
    rw [h2]; simp [h']
theorem good_eqF {dst : Option Tmp} {s : Sem Next} (ht : TR ρ n t tmps) (hs : Sim ρ m w) {ty : TypeId} {d : TypeDesc} (hu : P.underlying ty = some d) {flip : Bool} {x y : RV} {vx vy : Value} (hx : VR ρ x vx) (hy : VR ρ y vy)
    (hr : ∀ v, vx ≠ .nilIface → (∀ cs, vx ≠ .agg cs) → (binOp (if flip then .neq else .eql) ty vx vy).run P w = .ok v w → s.run P w = .ok (.value v) w) :
    Good P n dst s ρ m w tmps (eqF d flip x y (putd n dst) t m) := by
  unfold eqF
  cases d
  all_goals try exact good_bad
  all_goals
    simp only []
    split
    all_goals try exact good_bad
    all_goals
      simp only [VR] at hx hy
      first
      | (subst hx; subst hy)
      | (obtain ⟨_, _, rfl⟩ := hx; subst hy)
      | (obtain ⟨_, _, rfl⟩ := hy; subst hx)
      | (obtain ⟨_, _, _, _, rfl, _⟩ := hx; subst hy)
      | (obtain ⟨_, _, _, _, rfl, _⟩ := hy; subst hx)
      | (obtain ⟨_, _, rfl, _⟩ := hx; subst hy)
      | (obtain ⟨_, _, rfl, _⟩ := hy; subst hx)
      refine good_same ht hs (hr _ (by simp) (by simp) (run_eq_flip rfl rfl fun d => ?_)) VR_bool
      simp [Op.equalIn, run_underlying hu]
end
end Go.Ref
end
section
namespace Go.Ref
open Go
section
variable {P : Program} {n : Nat} {ρ : Rho} {m : Hp} {w : World} {tmps : Array Value} {t : Tr RV} {o : Oper}
theorem run_guard {op : BinOp} {ty : TypeId} {x y : Operand} {a b : Value} (h1 : a ≠ .nilIface) (h2 : ∀ cs, a ≠ .agg cs) : (eqGuard op ty x y a b).run P w = .ok () w := by
  unfold eqGuard
  cases a <;> first | exact absurd rfl h1 | exact absurd rfl (h2 _) | (cases op <;> simp <;> rfl)
theorem good_cBin (ht : TR ρ n t tmps) (hs : Sim ρ m w) {call : CallF} {op : BinOp} {ty yt : TypeId} {x y : Operand} (ho : o.op = .binOp op ty x y yt) :
    Good P n o.dst (execOp (evT tmps) o) ρ m w tmps (cBin P (putd n o.dst) op ty x y call t m) := by
  have hx := cOpd_VR ht x
  have hy := cOpd_VR ht y
  have run : ∀ v, evT tmps x ≠ .nilIface → (∀ cs, evT tmps x ≠ .agg cs) → (binOp op ty (evT tmps x) (evT tmps y)).run P w = .ok v w → (execOp (evT tmps) o).run P w = .ok (.value v) w := by
    intro v h1 h2 h
    simp [execOp, ho, run_guard h1 h2, h]
  unfold cBin
  have other : ∀ d, P.underlying ty = some d → Good P n o.dst (execOp (evT tmps) o) ρ m w tmps (eqOp op d (cOpd x) (cOpd y) (putd n o.dst) call t m) := by
    intro d hu
    unfold eqOp
    cases op
    all_goals try exact good_bad
    · exact good_eqF ht hs hu hx hy run
    · exact good_eqF ht hs hu hx hy run
  cases hu : und P ty
  case int => exact good_binF ht hs hx hy run
  case string => exact good_binF ht hs hx hy run
  case invalid => simp only []; unfold eqOp; cases op <;> exact good_bad
  all_goals exact other _ (und_of hu (by simp))
theorem good_cUn (ht : TR ρ n t tmps) (hs : Sim ρ m w) {call : CallF} {op : UnOp} {ty : TypeId} {x : Operand} (ho : o.op = .unOp op ty x) :
    Good P n o.dst (execOp (evT tmps) o) ρ m w tmps (cUn (putd n o.dst) op x call t m) := by
  have hx := cOpd_VR ht x
  unfold cUn
  cases op
  all_goals try exact good_bad
  · refine good_intK fun k a he => ?_
    rw [he] at hx; simp only [VR] at hx
    exact good_same ht hs (by simp [execOp, ho, hx, Op.unary, Op.intArith]; rfl) (by simp only [VR, wrapI_eq]; simp)
  · refine good_boolK fun b he => ?_
    rw [he] at hx; simp only [VR] at hx
    exact good_same ht hs (by simp [execOp, ho, hx, Op.unary]) VR_bool
theorem good_cConv (ht : TR ρ n t tmps) (hs : Sim ρ m w) {call : CallF} {sr d : TypeId} {x : Operand} (ho : o.op = .convert sr d x) :
    Good P n o.dst (execOp (evT tmps) o) ρ m w tmps (cConv P (putd n o.dst) sr d x call t m) := by
  have hx := cOpd_VR ht x
  unfold cConv
  by_cases hval : validT P sr = true
  case neg => simp only [hval]; exact good_bad
  obtain ⟨ds, hsr⟩ := validT_und hval
  simp only [hval, if_true]
  cases hu : und P d
  case int k =>
    simp only []
    have hu' := und_of hu (by simp)
    refine good_intK fun j a he => ?_
    rw [he] at hx; simp only [VR] at hx
    refine good_same ht hs (v := .int k (k.wrap a)) ?_ (by simp only [VR, wrapI_eq])
    cases ds <;> simp [execOp, ho, hx, convert, run_underlying hsr, run_underlying hu', Conv.intToInt]
  case string =>
    simp only []
    have hu' := und_of hu (by simp)
    cases hv : und P sr
    case string =>
      simp only []
      have hv' := und_of hv (by simp)
      split
      · rename_i s he
        have hx' := hx
        rw [he] at hx'; simp only [VR] at hx'
        obtain ⟨b, hb, _⟩ := hx'
        rw [he] at hx
        refine good_same ht hs ?_ hx
        simp [execOp, ho, hb, convert, run_underlying hv', run_underlying hu']
      · exact good_bad
    all_goals exact good_bad
  all_goals exact good_bad
theorem fill_eq (place : Nat → Option (Nat × Nat)) (cells : Array Value) (i : Nat) (v : Value) (rest : List (Nat × Value)) (off sz : Nat) (hp : place i = some (off, sz)) (hsz : v.cells.size = sz) (hle : off + v.cells.size ≤ cells.size) :
    Instr.fill place cells ((i, v) :: rest) = Instr.fill place (cells.toList.take off ++ v.cells.toList ++ cells.toList.drop (off + v.cells.size)).toArray rest := by
  simp only [Instr.fill, hp, hsz]
  have h1 : ¬ (cells.size < off + sz) := by omega
  simp only [ne_eq, not_true_eq_false, decide_false, Bool.false_or, h1, Bool.false_eq_true, if_false]
  have key : ∀ (l : List Value) (k : Nat) (c : Array Value), off + k + l.length ≤ c.size →
      (l.zipIdx k).foldl (fun cs (x : Value × Nat) => cs.setIfInBounds (off + x.2) x.1) c = (c.toList.take (off + k) ++ l ++ c.toList.drop (off + k + l.length)).toArray := by
    intro l
    induction l with
    | nil => intro k c _; simp
    | cons x l ih =>
      intro k c hc
      simp only [List.length_cons] at hc
      rw [List.zipIdx_cons, List.foldl_cons, ih (k + 1) _ (by simp; omega)]
      apply Array.ext'
      simp only [List.length_cons]
      apply List.ext_getElem?
      intro j
      simp only [Array.toList_setIfInBounds, List.getElem?_append, List.length_append, List.length_take, List.length_set, Array.length_toList, List.getElem?_take, List.getElem?_drop, List.getElem?_set, List.length_cons]
      by_cases h1 : j < off + k
      · rw [if_pos (by omega), if_pos (by omega), if_pos (by omega), if_neg (by omega), if_pos (by omega), if_pos (by omega), if_pos h1]
      · by_cases h2 : j = off + k
        · subst h2
          rw [if_pos (by omega), if_pos (by omega), if_pos (by omega), if_pos rfl, if_pos (by omega), if_pos (by omega), if_neg (by omega)]
          simp [show min (off + k) c.size = off + k from by omega]
        · by_cases h3 : j < off + k + (l.length + 1)
          · rw [if_pos (by omega), if_neg (by omega), if_pos (by omega), if_neg (by omega)]
            rw [show j - min (off + k) c.size = (j - min (off + (k + 1)) c.size) + 1 from by omega, List.getElem?_cons_succ]
          · rw [if_neg (by omega), if_neg (by omega), if_neg (by omega)]
            congr 1; omega
  have hv := key v.cells.toList 0 cells (by simpa using hle)
  simp only [Nat.add_zero, Array.length_toList] at hv
  rw [hsz] at hv
  have e : (Array.zipIdx v.cells).foldl (fun cs (x : Value × Nat) => match x with | (c, j) => cs.setIfInBounds (off + j) c) cells = (v.cells.toList.zipIdx 0).foldl (fun cs (x : Value × Nat) => cs.setIfInBounds (off + x.2) x.1) cells := by
    rw [← Array.foldl_toList]
    simp
  rw [e, hv]
theorem good_fillK {dst : Option Tmp} {s : Sem Next} (ht : TR ρ n t tmps) (place : Nat → Option (Nat × Nat)) : ∀ (ps : List (Nat × Operand)) (cells : List RV) (vs : Array Value) (k : List RV → OR), VRs ρ cells vs.toList →
    (∀ cells' vs', VRs ρ cells' vs'.toList → vs'.size = vs.size → Instr.fill place vs (ps.map fun p => (p.1, evT tmps p.2)) = some vs' → Good P n dst s ρ m w tmps (k cells')) →
    Good P n dst s ρ m w tmps (fillK place (ps.map fun p => (p.1, cOpd p.2)) t cells k)
  | [], cells, vs, k, hv, h => h cells vs hv rfl rfl
  | (i, x) :: ps, cells, vs, k, hv, h => by
    simp only [List.map_cons, fillK]
    cases hp : place i with
    | none => exact good_bad
    | some r =>
      obtain ⟨off, sz⟩ := r
      simp only []
      refine good_someK fun hne => good_iteK (fun hsz => good_lputK fun hle => ?_) fun _ => good_bad
      have hx := (cOpd_VR ht x).cells hne
      have hl : (cOpd x t).cells.length = (evT tmps x).cells.size := by simpa using hx.length
      have hl' : cells.length = vs.size := by simpa using hv.length
      rw [llen_eq] at hsz
      have hsz' : (evT tmps x).cells.size = sz := by have := Nat.eq_of_beq_eq_true hsz; omega
      have hfit : off + (evT tmps x).cells.size ≤ vs.size := by omega
      refine good_fillK ht place ps _ (vs.toList.take off ++ (evT tmps x).cells.toList ++ vs.toList.drop (off + (evT tmps x).cells.size)).toArray k ?_ fun cells' vs' h1 h2 h3 => h cells' vs' h1 ?_ ?_
      · have := ((hv.take off).append (hx.append (hv.drop (off + (cOpd x t).cells.length))))
        rw [hl] at this ⊢
        simpa using this
      · rw [h2]; simp; omega
      · rw [List.map_cons, fill_eq place vs i _ _ off sz hp hsz' hfit]; exact h3
theorem parts_eq (ps : Array (Nat × Operand)) : parts ps = ps.toList.map fun p => (p.1, cOpd p.2) := rfl
theorem places_some (fs : List Field) (h : fs.all (fun f => validT P f.type) = true) : fs.mapM (fun f => (P.info? f.type).map fun i => (f.offset, i.size)) = some (fs.map fun f => (f.offset, size P f.type)) := by
  induction fs with
  | nil => rfl
  | cons f fs ih =>
    simp only [List.all_cons, Bool.and_eq_true] at h
    obtain ⟨d, hd⟩ := validT_und h.1
    obtain ⟨i, hi, hsz⟩ := info_of_und hd
    simp [List.mapM_cons, hi, ih h.2, hsz]
theorem good_cBuild (ht : TR ρ n t tmps) (hs : Sim ρ m w) {call : CallF} {ty : TypeId} {ps : Array (Nat × Operand)} (ho : o.op = .build ty ps) :
    Good P n o.dst (execOp (evT tmps) o) ρ m w tmps (cBuild P (putd n o.dst) ty ps call t m) := by
  unfold cBuild
  cases hk : (zeroT P ty).known with
  | false => exact good_bad
  | true =>
    obtain ⟨i, z, hi, hz, he⟩ := zeroT_known hk
    have hv : VR ρ (zeroT P ty) z := by rw [he]; exact VR_ofV ρ z
    have hvc := hv.cells (known_ne hk)
    have fin : ∀ (place : Nat → Option (Nat × Nat)) vs', Instr.fill place z.cells (ps.toList.map fun p => (p.1, evT tmps p.2)) = some vs' →
        (Instr.fill place z.cells (ps.map fun p => (p.1, evT tmps p.2)).toList = P.built ty (ps.map fun p => (p.1, evT tmps p.2)).toList) → (execOp (evT tmps) o).run P w = .ok (.value (.agg vs')) w := by
      intro place vs' h1 h2
      have hb : P.built ty (ps.map fun (i, x) => (i, evT tmps x)).toList = some vs' := by
        rw [← h1, ← Array.toList_map, h2]
      simp only [execOp, ho]
      simp [run_build w ty _ vs' hb]
    cases hu : und P ty
    case struct fs =>
      simp only []
      have hu' := und_of hu (by simp)
      by_cases hval : fs.toList.all (fun f => validT P f.type) = true
      case neg => rw [if_neg hval]; exact good_bad
      rw [if_pos hval, parts_eq]
      refine good_fillK ht _ _ _ _ _ hvc fun cells' vs' h1 _ h3 => ?_
      refine good_same ht hs (v := .agg vs') (fin _ _ h3 ?_) (by simp only [VR]; exact ⟨_, rfl, h1⟩)
      simp only [Program.built, hi, hu', hz, places_some _ hval]
      congr 1
      funext k
      simp
    case array k e =>
      simp only []
      have hu' := und_of hu (by simp)
      by_cases hval : validT P e = true
      case neg => rw [if_neg hval]; exact good_bad
      obtain ⟨d, hde⟩ := validT_und hval
      obtain ⟨ie, hie, hsz⟩ := info_of_und hde
      rw [if_pos hval, parts_eq]
      refine good_fillK ht _ _ _ _ _ hvc fun cells' vs' h1 _ h3 => ?_
      refine good_same ht hs (v := .agg vs') (fin _ _ h3 ?_) (by simp only [VR]; exact ⟨_, rfl, h1⟩)
      simp only [Program.built, hi, hu', hz, hie, hsz]
    all_goals exact good_bad
theorem VRs_reps {xs : List RV} {vs : List Value} (h : VRs ρ xs vs) : ∀ k, VRs ρ (reps k xs) (List.replicate k vs).flatten
  | 0 => VRs.nil
  | k + 1 => by
    show VRs ρ (xs ++ reps k xs) _
    rw [List.replicate_succ, List.flatten_cons]
    exact h.append (VRs_reps h k)
theorem flat_get (z : List Value) (hz : z ≠ []) : ∀ (k j : Nat), j < k * z.length → ((List.replicate k z).flatten)[j]? = z[j % z.length]?
  | 0, j, h => by simp at h
  | k + 1, j, h => by
    have hp : 0 < z.length := List.length_pos_iff.2 hz
    rw [List.replicate_succ, List.flatten_cons]
    by_cases hj : j < z.length
    · rw [List.getElem?_append_left hj, Nat.mod_eq_of_lt hj]
    · rw [List.getElem?_append_right (by omega), flat_get z hz k (j - z.length) (by rw [Nat.add_mul] at h; omega)]
      congr 1
      rw [Nat.mod_eq_sub_mod (by omega : z.length ≤ j)]
theorem zero_row (z : Array Value) (k : Nat) : ((Array.range (k * z.size)).map (fun i => z[i % z.size]!)).toList = (List.replicate k z.toList).flatten := by
  by_cases hz : z.toList = []
  · have : z.size = 0 := by rw [← Array.length_toList, hz]; rfl
    simp [this, hz]
  · apply List.ext_getElem?
    intro j
    by_cases hj : j < k * z.size
    · rw [flat_get z.toList hz k j (by simpa using hj)]
      have hp : 0 < z.size := by rw [← Array.length_toList]; exact List.length_pos_iff.2 hz
      have hm : j % z.size < z.size := Nat.mod_lt _ hp
      simp [hj, hm]
    · rw [List.getElem?_eq_none (by simp; omega), List.getElem?_eq_none (by simp [List.length_flatten]; omega)]
theorem range_zero : Array.range 0 = #[] := by apply Array.ext'; simp
theorem good_cBuildSlice (ht : TR ρ n t tmps) (hs : Sim ρ m w) {call : CallF} {ty : TypeId} {len : Nat} {ps : Array (Nat × Operand)} (ho : o.op = .buildSlice ty len ps) :
    Good P n o.dst (execOp (evT tmps) o) ρ m w tmps (cBuildSlice P (putd n o.dst) ty len ps call t m) := by
  unfold cBuildSlice
  cases he : elemS P ty with
  | none => exact good_bad
  | some e =>
    have hu : P.underlying ty = some (.slice e) := by
      unfold elemS at he
      cases hu : und P ty <;> rw [hu] at he <;> simp at he
      subst he; exact und_of hu (by simp)
    simp only []
    cases hk : ((zeroT P e).known && Nat.beq (llen (zeroT P e).cells) (size P e) && Nat.ble (len * size P e) 16777216) with
    | false => exact good_bad
    | true =>
      simp only [Bool.and_eq_true] at hk
      obtain ⟨⟨hk1, hk2⟩, hk3⟩ := hk
      obtain ⟨i, z, hi, hz, hze⟩ := zeroT_known hk1
      have hv : VR ρ (zeroT P e) z := by rw [hze]; exact VR_ofV ρ z
      have hvc := hv.cells (known_ne hk1)
      have hsi : size P e = i.size := by simp [size, Program.cellsOf, hi]
      have hzs : z.cells.size = i.size := by
        have h1 : (zeroT P e).cells.length = z.cells.size := by simpa using hvc.length
        rw [llen_eq] at hk2
        have := Nat.eq_of_beq_eq_true hk2
        omega
      have hsmall : len * i.size ≤ 16777216 := by rw [← hsi]; exact Nat.le_of_ble_eq_true hk3
      simp only []
      rw [parts_eq]
      have hrow : VRs ρ (reps len (zeroT P e).cells) ((Array.range (len * i.size)).map (z.cells[· % z.cells.size]!)).toList := by
        rw [← hzs, zero_row _ _]; exact VRs_reps hvc len
      refine good_fillK ht _ _ _ _ _ hrow fun cells' vs' h1 h2 h3 => ?_
      refine good_new ht hs (k := fun a => .slice a 0 len len Option.none) ⟨w.drawn, rfl⟩ (v := .slice (some ⟨w.heap.size, 0, Option.none⟩) len len) (el := e) ?_ h1 ?_
      · have h3' : Instr.fill (fun i_1 => some (i_1 * i.size, i.size)) ((Array.range (len * i.size)).map (z.cells[· % z.cells.size]!)) (ps.map fun (i, x) => (i, evT tmps x)).toList = some vs' := by
          rw [← h3, hsi, ← Array.toList_map]
        by_cases h0 : len * i.size = 0
        · rw [h0] at h3'
          have h3'' : Instr.fill (fun i_1 => some (i_1 * i.size, i.size)) #[] (ps.map fun (i, x) => (i, evT tmps x)).toList = some vs' := by
            rw [← h3', range_zero]; simp
          simp only [execOp, ho]
          simp only [Instr.buildSlice, Sem.run_bind, run_underlying hu, Result.andThen_ok]
          simp [sizeOf, typeInfo, hi, h0, newRow, range_zero]
          simp at h3''
          rw [h3'']
          simp
        · simp only [execOp, ho]
          simp [run_buildSlice w ty e len _ vs' i z hu hi hz (by omega) h0 h3']
      · intro ρ' hρ
        simp only [VR]
        exact ⟨_, 0, len, hρ, rfl, Nat.le_refl _, Nat.le_refl _, .inr rfl, rfl⟩
theorem made_cells (z : Array Value) (k : Nat) : madeCells z k = (Array.range k).map (z[· % z.size]!) := by
  unfold madeCells
  rfl
theorem good_cMakeSlice (ht : TR ρ n t tmps) (hs : Sim ρ m w) {call : CallF} {ty : TypeId} {l c : Operand} (ho : o.op = .makeSlice ty l c) :
    Good P n o.dst (execOp (evT tmps) o) ρ m w tmps (cMakeSlice P (putd n o.dst) ty l c call t m) := by
  unfold cMakeSlice
  cases he : elemS P ty with
  | none => exact good_bad
  | some e =>
    have hu : P.underlying ty = some (.slice e) := by
      unfold elemS at he
      cases hu : und P ty <;> rw [hu] at he <;> simp at he
      subst he; exact und_of hu (by simp)
    simp only []
    cases hk : ((zeroT P e).known && Nat.beq (llen (zeroT P e).cells) (size P e)) with
    | false => exact good_bad
    | true =>
      simp only [Bool.and_eq_true] at hk
      obtain ⟨hk1, hk2⟩ := hk
      obtain ⟨i, z, hi, hz, hze⟩ := zeroT_known hk1
      have hv : VR ρ (zeroT P e) z := by rw [hze]; exact VR_ofV ρ z
      have hvc := hv.cells (known_ne hk1)
      have hsi : size P e = i.size := by simp [size, Program.cellsOf, hi]
      have hby : P.bytesOf e = i.bytes := by simp [Program.bytesOf, hi]
      have hzs : z.cells.size = i.size := by
        have h1 : (zeroT P e).cells.length = z.cells.size := by simpa using hvc.length
        rw [llen_eq] at hk2
        have := Nat.eq_of_beq_eq_true hk2
        omega
      simp only []
      have hl := cOpd_VR ht l
      have hc := cOpd_VR ht c
      refine good_natK fun k1 a ha => good_natK fun k2 b hb => good_iteK (fun h1 => good_iteK (fun h2 => good_iteK (fun h3 => ?_) fun _ => good_bad) fun _ => good_bad) fun _ => good_bad
      rw [ha] at hl; rw [hb] at hc
      simp only [VR] at hl hc
      have h1 := Nat.le_of_ble_eq_true h1
      have h2 := Nat.le_of_ble_eq_true h2
      have h3 := Nat.le_of_ble_eq_true h3
      rw [hby] at h3
      have hrow : VRs ρ (reps b (zeroT P e).cells) ((Array.range (b * i.size)).map (z.cells[· % z.cells.size]!)).toList := by
        rw [← hzs, zero_row _ _]; exact VRs_reps hvc b
      refine good_new ht hs (k := fun x => .slice x 0 a b Option.none) ⟨w.drawn, rfl⟩ (v := .slice (some ⟨w.heap.size, 0, Option.none⟩) a b) (el := e) ?_ hrow ?_
      · have hbig : ((i.bytes : Int) * (b : Int)) ≤ 281474976710656 := by
          have : ((i.bytes * b : Nat) : Int) ≤ 281474976710656 := by omega
          rwa [Int.natCast_mul] at this
        have hr := run_make (P := P) w ty e i z hu hi hz k1 k2 (a : Int) (b : Int) (by omega) (by omega) hbig (by omega)
        simp only [Int.toNat_natCast, made_cells] at hr
        simp only [execOp, ho]
        simp only [Sem.run_bind, hl, hc, Int.ofNat_eq_natCast, hr, Result.andThen_ok]
        rfl
      · intro ρ' hρ
        simp only [VR]
        exact ⟨_, 0, b, hρ, rfl, h1, Nat.le_refl _, .inr rfl, rfl⟩
end
end Go.Ref
end
section
namespace Go.Ref
open Go
section
variable {P : Program} {n : Nat} {ρ : Rho} {m : Hp} {w : World} {tmps : Array Value} {t : Tr RV} {o : Oper}
theorem str_get {x : ByteArray} {s : List Nat} (h : x.data.toList.map UInt8.toNat = s) {i b : Nat} (hb : s[i]? = some b) : ∃ u : UInt8, x[i]? = some u ∧ u.toNat = b := by
  subst h
  rw [List.getElem?_map] at hb
  cases hu : x.data.toList[i]? with
  | none => rw [hu] at hb; cases hb
  | some u =>
    rw [hu] at hb
    refine ⟨u, ?_, by simpa using hb⟩
    have hlt : i < x.data.toList.length := (List.getElem?_eq_some_iff.1 hu).1
    have hsz : i < x.size := by simpa using hlt
    rw [getElem?_pos x i hsz]
    have := (List.getElem?_eq_some_iff.1 hu).2
    congr 1
theorem good_cIndex (ht : TR ρ n t tmps) (hs : Sim ρ m w) {call : CallF} {ty : TypeId} {x i : Operand} (ho : o.op = .index ty x i) :
    Good P n o.dst (execOp (evT tmps) o) ρ m w tmps (cIndex P (putd n o.dst) ty x i call t m) := by
  unfold cIndex
  have hx := cOpd_VR ht x
  have hi := cOpd_VR ht i
  cases hu : und P ty
  case string =>
    have hu' := und_of hu (by simp)
    simp only []
    refine good_strK fun s he => good_natK fun k j hj => ?_
    rw [he] at hx; rw [hj] at hi
    simp only [VR] at hx hi
    obtain ⟨a, hv, ha⟩ := hx
    cases hb : s[j]? with
    | none => exact good_bad
    | some b =>
      obtain ⟨u, hu1, hu2⟩ := str_get ha hb
      refine good_same ht hs (v := .int .u8 (u.toNat : Int)) ?_ (by simp only [VR]; rw [hu2]; rfl)
      simp [execOp, ho, hv, hi, Instr.index, asIntOf, run_underlying hu', hu1]
  case array len e =>
    have hu' := und_of hu (by simp)
    simp only []
    cases hagg : aggT P e with
    | true =>
      simp only []
      obtain ⟨d, hde, _⟩ := und_agg hagg
      obtain ⟨ie, hie, hsz⟩ := info_of_und hde
      refine good_aggK fun l hl => good_natK fun k j hj => good_iteK (fun hlt => good_ltakeK fun hle => ?_) fun _ => good_bad
      rw [ldrop_eq] at hle ⊢
      rw [hl] at hx; rw [hj] at hi
      simp only [VR] at hx hi
      obtain ⟨cs, hv, hcs⟩ := hx
      have hlt' : j < len := by simpa [Nat.blt_eq] using hlt
      refine good_same ht hs (v := .agg (cs.extract (j * size P e) (j * size P e + size P e))) ?_ (by simp only [VR]; exact ⟨_, rfl, VRs_extract hcs _ _⟩)
      simp [execOp, ho, hv, hi, Instr.index, asIntOf, run_underlying hu', hlt', sizeOf, typeInfo, hie, ← hsz, run_part hde, hagg]
    | false =>
      simp only []
      by_cases hval : validT P e = true
      case neg => rw [if_neg hval]; exact good_bad
      rw [if_pos hval]
      obtain ⟨d, hde⟩ := validT_und hval
      obtain ⟨ie, hie, hsz⟩ := info_of_und hde
      refine good_aggK fun l hl => good_natK fun k j hj => good_iteK (fun hlt => good_lnth fun y hy => ?_) fun _ => good_bad
      rw [hl] at hx; rw [hj] at hi
      simp only [VR] at hx hi
      obtain ⟨cs, hv, hcs⟩ := hx
      have hlt' : j < len := by simpa [Nat.blt_eq] using hlt
      obtain ⟨u, hu1, hr⟩ := hcs.get _ _ hy
      refine good_same ht hs (v := u) ?_ hr
      simp [execOp, ho, hv, hi, Instr.index, asIntOf, run_underlying hu', hlt', sizeOf, typeInfo, hie, ← hsz, run_part hde, hagg, show cs[j * size P e]? = some u from by simpa using hu1]
  all_goals exact good_bad
theorem run_sliceBound {k : IntKind} {j y : Nat} (h : j ≤ y) (code : BoundsCode) : (Instr.sliceBound (.int k (j : Int)) y code).run P w = .ok j w := by
  have h0 : (0 : Int) ≤ (j : Int) ∧ (j : Int) ≤ (y : Int) := ⟨by omega, by omega⟩
  simp only [Instr.sliceBound, asIntOf, Sem.run_bind, Sem.run_pure, Result.andThen_ok, h0, and_self, if_true]
  rfl
def IsBound (tmps : Array Value) (x : Option Operand) (d j : Nat) : Prop := match x with | Option.none => j = d | some x => ∃ k, evT tmps x = .int k (j : Int)
theorem good_optK {dst : Option Tmp} {s : Sem Next} (ht : TR ρ n t tmps) {x : Option Operand} {d : Nat} {k : Nat → OR} (h : ∀ j, IsBound tmps x d j → Good P n dst s ρ m w tmps (k j)) :
    Good P n dst s ρ m w tmps (optK (x.map cOpd) d t k) := by
  cases x with
  | none => exact h d rfl
  | some x =>
    have hx := cOpd_VR ht x
    refine good_natK fun i j hj => h j ?_
    rw [hj] at hx; simp only [VR] at hx
    exact ⟨i, hx⟩
theorem run_bounds {isSlice : Bool} {len cap : Nat} {lo hi : Option Operand} {l h : Nat} (hh : IsBound tmps hi len h) (hl : IsBound tmps lo 0 l) (h1 : h ≤ cap) (h2 : l ≤ h) :
    (Instr.sliceBounds isSlice len cap (lo.map (evT tmps)) (hi.map (evT tmps)) Option.none).run P w = .ok (l, h, cap) w := by
  cases hi with
  | none =>
    simp only [IsBound] at hh; subst hh
    cases lo with
    | none => simp only [IsBound] at hl; subst hl; simp [Instr.sliceBounds]
    | some x => obtain ⟨k, hx⟩ := hl; simp only [Option.map_some, Option.map_none, hx]; simp [Instr.sliceBounds, run_sliceBound h2]
  | some y =>
    obtain ⟨k', hy⟩ := hh
    cases lo with
    | none => simp only [IsBound] at hl; subst hl; simp only [Option.map_some, Option.map_none, hy]; simp [Instr.sliceBounds, run_sliceBound h1]
    | some x => obtain ⟨k, hx⟩ := hl; simp only [Option.map_some, hx, hy]; simp [Instr.sliceBounds, run_sliceBound h2, run_sliceBound h1]
theorem run_bounds3 {isSlice : Bool} {len cap : Nat} {lo : Option Operand} {hi mx : Operand} {l h x : Nat} {k1 k2 : IntKind} (hx : evT tmps mx = .int k1 (x : Int)) (hh : evT tmps hi = .int k2 (h : Int)) (hl : IsBound tmps lo 0 l) (h0 : x ≤ cap) (h1 : h ≤ x) (h2 : l ≤ h) :
    (Instr.sliceBounds isSlice len cap (lo.map (evT tmps)) (some (evT tmps hi)) (some (evT tmps mx))).run P w = .ok (l, h, x) w := by
  rw [hx, hh]
  cases lo with
  | none => simp only [IsBound] at hl; subst hl; simp [Instr.sliceBounds, run_sliceBound h0, run_sliceBound h1]
  | some y => obtain ⟨k, hy⟩ := hl; simp only [Option.map_some, hy]; simp [Instr.sliceBounds, run_sliceBound h0, run_sliceBound h1, run_sliceBound h2]
theorem str_sub (a : ByteArray) (l h : Nat) : (a.extract l h).data.toList.map UInt8.toNat = ((a.data.toList.map UInt8.toNat).take h).drop l := by
  rw [← List.map_take, ← List.map_drop]
  congr 1
  rw [ByteArray.data_extract, Array.toList_extract, List.extract_eq_take_drop, List.drop_take]
theorem good_cSlice (ht : TR ρ n t tmps) (hs : Sim ρ m w) {call : CallF} {ty : TypeId} {x : Operand} {lo hi mx : Option Operand} (ho : o.op = .slice ty x lo hi mx) :
    Good P n o.dst (execOp (evT tmps) o) ρ m w tmps (cSlice P (putd n o.dst) ty x lo hi mx call t m) := by
  unfold cSlice
  have hx := cOpd_VR ht x
  have hrun : ∀ d v, P.underlying ty = some d → (∀ k e, d ≠ .array k e) → (Instr.slice ty (evT tmps x) (lo.map (evT tmps)) (hi.map (evT tmps)) (mx.map (evT tmps))).run P w = .ok v w → (execOp (evT tmps) o).run P w = .ok (.value v) w := by
    intro d v hu hd h
    have : (Instr.sliceAt ty (evT tmps x) (lo.map (evT tmps)) (hi.map (evT tmps)) (mx.map (evT tmps))).run P w = .ok v w := by
      simp only [Instr.sliceAt, Sem.run_bind, run_underlying hu, Result.andThen_ok]
      cases d <;> first | exact absurd rfl (hd _ _) | exact h
    simp [execOp, ho, this]
  cases hu : und P ty
  case string =>
    have hu' := und_of hu (by simp)
    simp only []
    cases mx with
    | some y => exact good_bad
    | none =>
      simp only [Option.map_none]
      refine good_strK fun s he => good_optK ht fun h hh => good_iteK (fun h1 => good_optK ht fun l hl => good_iteK (fun h2 => ?_) fun _ => good_bad) fun _ => good_bad
      rw [he] at hx
      simp only [VR] at hx
      obtain ⟨a, hv, ha⟩ := hx
      have h1 := Nat.le_of_ble_eq_true h1
      have h2 := Nat.le_of_ble_eq_true h2
      have hlen : s.length = a.size := by rw [← ha]; simp
      rw [hlen] at h1 hh
      refine good_same ht hs (v := .string (a.extract l h)) (hrun _ _ hu' (by simp) ?_) ?_
      · rw [hv]
        simp [Instr.slice, run_underlying hu', run_bounds hh hl h1 h2]
      · simp only [VR]
        refine ⟨_, rfl, ?_⟩
        rw [← ha]
        rw [str_sub a l h]
  case slice e =>
    have hu' := und_of hu (by simp)
    have nilrun : (Instr.sliceBounds true 0 0 (lo.map (evT tmps)) (hi.map (evT tmps)) (mx.map (evT tmps))).run P w = .ok (0, 0, 0) w → (∃ d, P.underlying e = some d) → evT tmps x = .slice Option.none 0 0 → (execOp (evT tmps) o).run P w = .ok (.value (.slice Option.none 0 0)) w := by
      intro hb ⟨d, hde⟩ hv
      obtain ⟨ie, hie, hsz⟩ := info_of_und hde
      refine hrun _ _ hu' (by simp) ?_
      rw [hv]
      simp [Instr.slice, run_underlying hu', hb, sizeOf, typeInfo, hie]
    have someRun : ∀ (b : Blk) off n' c' l h mm, evT tmps x = .slice (some ⟨b.r, off, Option.none⟩) n' c' → (∃ d, P.underlying e = some d) →
        (Instr.sliceBounds true n' c' (lo.map (evT tmps)) (hi.map (evT tmps)) (mx.map (evT tmps))).run P w = .ok (l, h, mm) w →
        (execOp (evT tmps) o).run P w = .ok (.value (.slice (some ⟨b.r, if mm = l then off else off + l * size P e, Option.none⟩) (h - l) (mm - l))) w := by
      intro b off n' c' l h mm hv ⟨d, hde⟩ hb
      obtain ⟨ie, hie, hsz⟩ := info_of_und hde
      refine hrun _ _ hu' (by simp) ?_
      rw [hv]
      simp [Instr.slice, run_underlying hu', hb, sizeOf, typeInfo, hie, hsz]
      by_cases hm : mm = l
      · simp [hm]
      · simp [hm, Addr.add_mid]
    simp only []
    by_cases hval : validT P e = true
    case neg => rw [if_neg hval]; exact good_bad
    rw [if_pos hval]
    have hde := validT_und hval
    have fin : ∀ a o' n' c u l h mm (u' : Option Nat), x = x → cOpd x t = .slice a o' n' c u → l ≤ h → h ≤ mm → mm ≤ c →
        (∀ c', n' ≤ c → c ≤ c' → (u = Option.none → c' = c) → ∃ mm', mm ≤ mm' ∧ mm' ≤ c' ∧ (u' = Option.none → mm' = mm) ∧ (u' ≠ Option.none → u' = u ∧ mm' = c') ∧
          (Instr.sliceBounds true n' c' (lo.map (evT tmps)) (hi.map (evT tmps)) (mx.map (evT tmps))).run P w = .ok (l, h, mm') w) →
        (∀ z, u' = some z → z = size P e) → Good P n o.dst (execOp (evT tmps) o) ρ m w tmps (putd n o.dst (.slice a (o' + l * size P e) (h - l) (mm - l) u') t m) := by
      intro a o' n' c u l h mm u' _ he h1 h2 h3 hb hz
      rw [he] at hx
      simp only [VR] at hx
      obtain ⟨b, off, c', hbb, hv, g1, g2, g3, g4⟩ := hx
      obtain ⟨mm', k1, k2, k3, k4, hbr⟩ := hb c' g1 g2 (fun e => by subst e; exact g4)
      refine good_same ht hs (someRun b off n' c' l h mm' hv hde hbr) ?_
      simp only [VR]
      refine ⟨b, _, _, hbb, rfl, by omega, by omega, ?_, ?_⟩
      · by_cases hm : mm' = l
        · left; omega
        · right
          have : off = b.sh + o' := by rcases g3 with g3 | g3; (exfalso; omega); exact g3
          rw [if_neg hm, this]; omega
      · cases u' with
        | none => have := k3 rfl; show mm' - l = mm - l; omega
        | some z =>
          obtain ⟨k5, k6⟩ := k4 (by simp)
          have hz' := hz z rfl
          subst hz'
          rw [← k5] at g4
          simp only [] at g4 ⊢
          by_cases hm : mm' = l
          · rw [if_pos hm, hm]; simp; omega
          · rw [if_neg hm]
            rw [k6]
            have : (c' - l) * size P e + l * size P e = c' * size P e := by rw [← Nat.add_mul]; congr 1; omega
            omega
    cases mx with
    | none =>
      simp only [Option.map_none]
      refine good_sliceE (fun he => good_optK ht fun h hh => ?_) fun a o' n' c u he => good_optK ht fun h hh => good_iteK (fun h1 => good_optK ht fun l hl => good_iteK (fun h2 => good_iteK (fun h3 => ?_) fun _ => good_bad) fun _ => good_bad) fun _ => good_bad
      · cases h with
        | succ h => exact good_bad
        | zero =>
          refine good_optK ht fun l hl => ?_
          cases l with
          | succ l => exact good_bad
          | zero =>
            have hv := hx
            rw [he] at hv; simp only [VR] at hv
            exact good_same ht hs (nilrun (run_bounds hh hl (Nat.le_refl _) (Nat.le_refl _)) hde hv) (by simp only [VR])
      · have h1 := Nat.le_of_ble_eq_true h1
        have h2 := Nat.le_of_ble_eq_true h2
        refine fin a o' n' c u l h c u rfl he h2 h1 (Nat.le_refl _) (fun c' g1 g2 g3 => ⟨c', g2, Nat.le_refl _, g3, fun _ => ⟨rfl, rfl⟩, run_bounds hh hl (by omega) h2⟩) ?_
        intro z hz
        subst hz
        exact Nat.eq_of_beq_eq_true h3
    | some mx =>
      cases hi with
      | none => exact good_bad
      | some hi =>
        simp only [Option.map_some]
        have hm := cOpd_VR ht mx
        have hh := cOpd_VR ht hi
        refine good_sliceE (fun he => good_natK fun k1 y hy => ?_) fun a o' n' c u he => good_natK fun k1 y hy => good_iteK (fun h0 => good_natK fun k2 h hhe => good_iteK (fun h1 => good_optK ht fun l hl => good_iteK (fun h2 => ?_) fun _ => good_bad) fun _ => good_bad) fun _ => good_bad
        · cases y with
          | succ y => exact good_bad
          | zero =>
            refine good_natK fun k2 h hhe => ?_
            cases h with
            | succ h => exact good_bad
            | zero =>
              refine good_optK ht fun l hl => ?_
              cases l with
              | succ l => exact good_bad
              | zero =>
                have hv := hx
                rw [he] at hv; rw [hy] at hm; rw [hhe] at hh; simp only [VR] at hv hm hh
                exact good_same ht hs (nilrun (run_bounds3 (x := 0) (h := 0) hm hh hl (Nat.le_refl _) (Nat.le_refl _) (Nat.le_refl _)) hde hv) (by simp only [VR])
        · have h0 := Nat.le_of_ble_eq_true h0
          have h1 := Nat.le_of_ble_eq_true h1
          have h2 := Nat.le_of_ble_eq_true h2
          rw [hy] at hm; rw [hhe] at hh; simp only [VR] at hm hh
          exact fin a o' n' c u l h y Option.none rfl he h2 h1 h0 (fun c' g1 g2 g3 => ⟨y, Nat.le_refl _, by omega, fun _ => rfl, fun e => absurd rfl e, run_bounds3 (x := y) (h := h) hm hh hl (by omega) h1 h2⟩) (fun z hz => by cases hz)
  all_goals exact good_bad
end
end Go.Ref
end
section
namespace Go.Ref
open Go
open Go.MapKept (IsKey)
section
variable {P : Program} {n : Nat} {ρ : Rho} {m : Hp} {w : World} {tmps : Array Value} {t : Tr RV} {o : Oper}
theorem Sim.map {ρ : Rho} {m : Hp} {w : World} (hs : Sim ρ m w) {a : Pos} {b : Blk} (ha : ρ a = some b) {es : List ME} {c : Nat} (hc : m.at a = .map es c) :
    ∃ es' : Array MapEntry, w.heap[b.r]? = some (.map es' c) ∧ MRs ρ es es'.toList := by
  have := hs.obj _ _ ha
  rw [hc] at this
  exact this
theorem mapElem_some {P : Program} {ty kt e : TypeId} (h : mapElem P ty = some (kt, e)) : P.underlying ty = some (.map kt e) := by
  unfold mapElem at h
  split at h
  · rename_i k e' hu
    cases h
    exact und_of hu (by simp)
  · cases h
theorem scalarT_some {P : Program} {kt : TypeId} (h : scalarT P kt = true) : P.underlying kt = some (und P kt) := by
  refine und_of rfl fun e => ?_
  unfold scalarT at h
  rw [e] at h
  cases h
theorem isKey_of {ρ : Rho} {d : TypeDesc} {x : RV} {v : Value} (h : keyIs d x = true) (hv : VR ρ x v) : IsKey d v := by
  unfold keyIs at h
  split at h
  · simp only [VR] at hv; subst hv; show _ = _; simpa using h
  · simp only [VR] at hv; obtain ⟨s, rfl, _⟩ := hv; trivial
  · simp only [VR] at hv; subst hv; trivial
  · cases h
theorem bytes_eq_of {a b : ByteArray} (h : a.data.toList.map UInt8.toNat = b.data.toList.map UInt8.toNat) : a = b := by
  obtain ⟨x⟩ := a
  obtain ⟨y⟩ := b
  congr 1
  apply Array.toList_inj.1
  exact (List.map_inj_right (fun _ _ => UInt8.toNat.inj)).1 h
theorem keq1_same {ρ : Rho} {d : TypeDesc} {x y : RV} {v u : Value} {r : Bool} (hk : keyIs d x = true) (hx : VR ρ x v) (hy : VR ρ y u) (h : keq1 x y = some r) : Instr.sameNow d v u = some r ∧ (r = true → v = u) := by
  unfold keyIs at hk
  unfold keq1 at h
  split at h
  · rename_i j a k b
    simp only [VR] at hx hy
    subst hx; subst hy
    cases hjk : decide (j = k) with
    | false => simp [hjk] at h
    | true =>
      have := of_decide_eq_true hjk; subst this
      simp only [decide_true, Option.some.injEq] at h
      rw [ieq_eq] at h
      cases d <;> simp_all [Instr.sameNow]
      subst h; simp [BEq.beq]
  · rename_i a b
    simp only [VR] at hx hy
    obtain ⟨a', rfl, rfl⟩ := hx
    obtain ⟨b', rfl, rfl⟩ := hy
    simp only [Option.some.injEq] at h
    rw [seq_eq] at h
    have hr : (a' == b') = r := by
      rw [← h, Bool.eq_iff_iff, MapKept.bytes_beq]
      constructor
      · rintro rfl; simp
      · intro e
        exact bytes_eq_of (by rw [eq_of_beq e])
    cases d <;> simp_all [Instr.sameNow]
    intro e
    exact (MapKept.bytes_beq _ _).1 (hr.trans e)
  · simp only [VR] at hx hy
    subst hx; subst hy
    cases d <;> simp_all [Instr.sameNow]
    intro e
    subst e
    simpa using h
  · cases h
theorem good_findK {dst : Option Tmp} {s : Sem Next} {d : TypeDesc} {k : RV} {kv : Value} (hk : keyIs d k = true) (hkv : VR ρ k kv) : ∀ (es : List ME) (es' : List MapEntry) (i : Nat) (c : Option RV → OR), MRs ρ es es' →
    (∀ r r', Instr.findNow d kv es' i = some r' → (match r, r' with | Option.none, Option.none => True | some x, some (_, v) => VR ρ x v | _, _ => False) → Good P n dst s ρ m w tmps (c r)) →
    Good P n dst s ρ m w tmps (findK k es c)
  | [], es', i, c, h, hc => by
    simp only [MRs] at h; subst h
    exact hc Option.none Option.none rfl trivial
  | e :: es, es', i, c, h, hc => by
    obtain ⟨e', l', rfl, ⟨h1, h2, h3⟩, h4⟩ := h
    unfold findK
    cases hq : keq1 k e.key with
    | none => exact good_bad
    | some r =>
      have hsame := (keq1_same hk hkv h1 hq).1
      cases r with
      | true => exact hc (some e.val) (some (i, e'.val)) (by simp [Instr.findNow, hsame]) h2
      | false => exact good_findK hk hkv es l' (i + 1) c h4 fun r r' hf hr => hc r r' (by simp [Instr.findNow, hsame, hf]) hr
theorem MRs.append {ρ : Rho} : ∀ {a : List ME} {a' : List MapEntry} {b : List ME} {b' : List MapEntry}, MRs ρ a a' → MRs ρ b b' → MRs ρ (a ++ b) (a' ++ b')
  | [], _, _, _, h, k => by simp only [MRs] at h; subst h; exact k
  | _ :: _, _, _, _, ⟨e', l', he, h1, h2⟩, k => by subst he; exact ⟨e', l' ++ _, rfl, h1, MRs.append h2 k⟩
def Upd (d : TypeDesc) (es : List MapEntry) (i : Nat) (kv vv : Value) (clock : Nat) (es₂ : List MapEntry) (clock₂ : Nat) : Prop :=
  (Instr.findNow d kv es i = some Option.none ∧ es₂ = es ++ [⟨kv, vv, clock⟩] ∧ clock₂ = clock + 1) ∨
  ∃ j e, Instr.findNow d kv es i = some (some (i + j, e.val)) ∧ es[j]? = some e ∧ e.key = kv ∧ es₂ = es.set j ⟨kv, vv, e.born⟩ ∧ clock₂ = clock
theorem good_updK {dst : Option Tmp} {s : Sem Next} {d : TypeDesc} {k v : RV} {kv vv : Value} {clock : Nat} (hk : keyIs d k = true) (hkv : VR ρ k kv) (hvv : VR ρ v vv) : ∀ (es : List ME) (es' : List MapEntry) (i : Nat) (c : List ME → Nat → OR), MRs ρ es es' →
    (∀ es₂ es₂' n₂, MRs ρ es₂ es₂' → Upd d es' i kv vv clock es₂' n₂ → Good P n dst s ρ m w tmps (c es₂ n₂)) →
    Good P n dst s ρ m w tmps (updK k v clock es c)
  | [], es', i, c, h, hc => by
    simp only [MRs] at h; subst h
    exact hc _ [⟨kv, vv, clock⟩] _ ⟨_, _, rfl, ⟨hkv, hvv, rfl⟩, rfl⟩ (.inl ⟨rfl, rfl, rfl⟩)
  | e :: es, es', i, c, h, hc => by
    obtain ⟨e', l', rfl, ⟨h1, h2, h3⟩, h4⟩ := h
    unfold updK
    cases hq : keq1 k e.key with
    | none => exact good_bad
    | some r =>
      obtain ⟨hsame, heq⟩ := keq1_same hk hkv h1 hq
      cases r with
      | true =>
        refine hc _ (⟨kv, vv, e'.born⟩ :: l') _ ⟨_, _, rfl, ⟨hkv, hvv, h3⟩, h4⟩ (.inr ⟨0, e', by simp [Instr.findNow, hsame], rfl, (heq rfl).symm, rfl, rfl⟩)
      | false =>
        refine good_updK hk hkv hvv es l' (i + 1) _ h4 fun es₂ es₂' n₂ hm hu => hc (e :: es₂) (e' :: es₂') n₂ ⟨_, _, rfl, ⟨h1, h2, h3⟩, hm⟩ ?_
        rcases hu with ⟨u1, u2, u3⟩ | ⟨j, e0, u1, u2, u3, u4, u5⟩
        · exact .inl ⟨by simp [Instr.findNow, hsame, u1], by rw [u2]; rfl, u3⟩
        · refine .inr ⟨j + 1, e0, ?_, by simpa using u2, u3, by rw [u4]; rfl, u5⟩
          simp [Instr.findNow, hsame, u1]; omega
def Del (d : TypeDesc) (es : List MapEntry) (i : Nat) (kv : Value) (es₂ : List MapEntry) : Prop :=
  (Instr.findNow d kv es i = some Option.none ∧ es₂ = es) ∨ ∃ j u, Instr.findNow d kv es i = some (some (i + j, u)) ∧ j < es.length ∧ es₂ = es.eraseIdx j
theorem good_delK {dst : Option Tmp} {s : Sem Next} {d : TypeDesc} {k : RV} {kv : Value} (hk : keyIs d k = true) (hkv : VR ρ k kv) : ∀ (es : List ME) (es' : List MapEntry) (i : Nat) (c : List ME → OR), MRs ρ es es' →
    (∀ es₂ es₂', MRs ρ es₂ es₂' → Del d es' i kv es₂' → Good P n dst s ρ m w tmps (c es₂)) →
    Good P n dst s ρ m w tmps (delK k es c)
  | [], es', i, c, h, hc => by
    simp only [MRs] at h; subst h
    exact hc _ [] rfl (.inl ⟨rfl, rfl⟩)
  | e :: es, es', i, c, h, hc => by
    obtain ⟨e', l', rfl, ⟨h1, h2, h3⟩, h4⟩ := h
    unfold delK
    cases hq : keq1 k e.key with
    | none => exact good_bad
    | some r =>
      obtain ⟨hsame, heq⟩ := keq1_same hk hkv h1 hq
      cases r with
      | true => exact hc _ l' h4 (.inr ⟨0, e'.val, by simp [Instr.findNow, hsame], by simp, rfl⟩)
      | false =>
        refine good_delK hk hkv es l' (i + 1) _ h4 fun es₂ es₂' hm hu => hc (e :: es₂) (e' :: es₂') ⟨_, _, rfl, ⟨h1, h2, h3⟩, hm⟩ ?_
        rcases hu with ⟨u1, u2⟩ | ⟨j, u, u1, u2, u3⟩
        · exact .inl ⟨by simp [Instr.findNow, hsame, u1], by rw [u2]⟩
        · refine .inr ⟨j + 1, u, ?_, by simpa using u2, by rw [u3]; rfl⟩
          simp [Instr.findNow, hsame, u1]; omega
theorem put_map (hs : Sim ρ m w) {a : Pos} {b : Blk} (ha : ρ a = some b) {es : List ME} {c : Nat} (hc : m.at a = .map es c) {es₂ : List ME} {es₂' : Array MapEntry} {c₂ : Nat} (h : MRs ρ es₂ es₂'.toList) :
    ∃ w', (setObj b.r (.map es₂' c₂)).run P w = .ok () w' ∧ Ext ρ m w ρ (m.put a (.map es₂ c₂)) w' ∧ Sim ρ (m.put a (.map es₂ c₂)) w' := by
  obtain ⟨es', hb, _⟩ := hs.map ha hc
  obtain ⟨h1, h2⟩ := MapKept.heap_set (o' := .map es₂' c₂) hb
  refine ⟨_, MapKept.run_setObj_map _ hb, ?_⟩
  exact put_block hs ha (by rw [hc]; trivial) _ (by simp) h2 rfl rfl rfl ⟨es₂', h1, h⟩
theorem good_cLookup (ht : TR ρ n t tmps) (hs : Sim ρ m w) {call : CallF} {ty : TypeId} {x k : Operand} {ok : Bool} (ho : o.op = .lookup ty x k ok) :
    Good P n o.dst (execOp (evT tmps) o) ρ m w tmps (cLookup P (putd n o.dst) ty x k ok call t m) := by
  unfold cLookup
  cases hme : mapElem P ty with
  | none => exact good_bad
  | some p =>
    obtain ⟨kt, e⟩ := p
    simp only []
    have hu := mapElem_some hme
    cases hz : ((zeroT P e).known && scalarT P kt) with
    | false => exact good_bad
    | true =>
      rw [Bool.and_eq_true] at hz
      obtain ⟨hz1, hz2⟩ := hz
      have hd := scalarT_some hz2
      obtain ⟨i, z, hi, hzz, he⟩ := zeroT_known hz1
      have hzv : VR ρ (zeroT P e) z := by rw [he]; exact VR_ofV ρ z
      simp only []
      have hx := cOpd_VR ht x
      have hk := cOpd_VR ht k
      have fin : ∀ (v : RV) (v' : Value) (b : Bool), VR ρ v v' → (Instr.lookup ty (evT tmps x) (evT tmps k) ok).run P w = .ok (if ok then .tuple #[v', .bool b] else v') w →
          Good P n o.dst (execOp (evT tmps) o) ρ m w tmps (match (generalizing := false) ok with | true => putd n o.dst (.tuple [v, .bool b]) t m | false => putd n o.dst v t m) := by
        intro v v' b hv hr
        cases ok with
        | true => exact good_same ht hs (v := .tuple #[v', .bool b]) (by simp [execOp, ho, hr]) (by simp only [VR]; exact ⟨_, rfl, VRs.cons hv (VRs.cons VR_bool VRs.nil)⟩)
        | false => exact good_same ht hs (v := v') (by simp [execOp, ho, hr]) hv
      refine good_mapE (fun hm => ?_) fun a ha => good_mapK fun es c hc => good_iteK (fun hki => ?_) fun _ => good_bad
      · rw [hm] at hx; simp only [VR] at hx
        refine fin _ z false hzv ?_
        have hck : (Instr.checkKey true 10000 kt (evT tmps k)).run P w = .ok () w := by
          unfold Instr.checkKey
          simp only [Sem.run_bind, run_underlying hd, Result.andThen]
          revert hz2
          unfold scalarT
          cases und P kt <;> simp
        have hf : (Instr.findKey kt (evT tmps k) []).run P w = .ok Option.none w := MapKept.run_findKey hd rfl
        simp [Instr.lookup, run_underlying hu, hx, hck, hf, run_zeroValue hi hzz]
      · rw [ha] at hx; simp only [VR] at hx
        obtain ⟨b, hb, hv⟩ := hx
        obtain ⟨es', h1, h2⟩ := hs.map hb hc
        refine good_findK hki hk es es'.toList 0 _ h2 fun r r' hf hr => ?_
        have hkey := isKey_of hki hk
        cases r with
        | none =>
          cases r' with
          | some p => exact hr.elim
          | none =>
            refine fin _ z false hzv ?_
            simp [Instr.lookup, run_underlying hu, hv, MapKept.run_getObj_map h1, MapKept.run_checkKey hd hkey, MapKept.run_findKey hd hf, run_zeroValue hi hzz]
        | some x =>
          cases r' with
          | none => exact hr.elim
          | some p =>
            refine fin x p.2 true hr ?_
            simp [Instr.lookup, run_underlying hu, hv, MapKept.run_getObj_map h1, MapKept.run_checkKey hd hkey, MapKept.run_findKey hd hf]
theorem good_cMapUpdate (ht : TR ρ n t tmps) (hs : Sim ρ m w) {call : CallF} {ty : TypeId} {x k v : Operand} (ho : o.op = .mapUpdate ty x k v ∨ o.op = .insert ty x k v) :
    Good P n o.dst (execOp (evT tmps) o) ρ m w tmps (cMapUpdate P (putd n o.dst) ty x k v call t m) := by
  unfold cMapUpdate
  cases hme : mapElem P ty with
  | none => exact good_bad
  | some p =>
    obtain ⟨kt, e⟩ := p
    simp only []
    have hu := mapElem_some hme
    cases hz2 : scalarT P kt with
    | false => exact good_bad
    | true =>
      simp only []
      have hd := scalarT_some hz2
      have hx := cOpd_VR ht x
      have hk := cOpd_VR ht k
      have hv := cOpd_VR ht v
      refine good_mapE (fun hm => good_bad) fun a ha => good_mapK fun es c hc => good_iteK (fun hki => ?_) fun _ => good_bad
      rw [ha] at hx; simp only [VR] at hx
      obtain ⟨b, hb, hxv⟩ := hx
      obtain ⟨es', h1, h2⟩ := hs.map hb hc
      have hkey := isKey_of hki hk
      refine good_updK hki hk hv es es'.toList 0 _ h2 fun es₂ es₂' n₂ hm hup => ?_
      obtain ⟨w', hr, e1, e2⟩ := put_map (P := P) (es₂' := es₂'.toArray) (c₂ := n₂) hs hb hc hm
      refine good_put ht (gives_skip ?_) e1 e2 (VR_undef ρ)
      have : (Instr.mapUpdate ty (evT tmps x) (evT tmps k) (evT tmps v)).run P w = .ok () w' := by
        rw [← hr]
        rcases hup with ⟨u1, u2, u3⟩ | ⟨j, e0, u1, u2, u3, u4, u5⟩
        · subst u2; subst u3
          have harr : es'.push (⟨evT tmps k, evT tmps v, c⟩ : MapEntry) = (es'.toList ++ [(⟨evT tmps k, evT tmps v, c⟩ : MapEntry)]).toArray := by
            apply Array.toList_inj.1; simp
          simp [Instr.mapUpdate, run_underlying hu, hxv, MapKept.run_getObj_map h1, MapKept.run_checkKey hd hkey, MapKept.run_findKey hd u1, harr]
        · subst u4; subst u5
          rw [Nat.zero_add] at u1
          have u2' : es'[j]? = some e0 := by simpa using u2
          have hj : j < es'.size := (Array.getElem?_eq_some_iff.1 u2').1
          have harr : (es'.modify j fun e => { e with key := evT tmps k, val := evT tmps v }) = (es'.toList.set j ⟨evT tmps k, evT tmps v, e0.born⟩).toArray := by
            apply Array.toList_inj.1
            apply List.ext_getElem?
            intro q
            simp only [Array.getElem?_toList, Array.getElem?_modify, List.getElem?_set, Array.length_toList]
            by_cases hq : j = q
            · subst hq; simp [hj, (Array.getElem?_eq_some_iff.1 u2').2]
            · simp [hq]
          have hks := MapKept.run_keyThatStays (P := P) (w := w) hkey
          simp [Instr.mapUpdate, run_underlying hu, hxv, MapKept.run_getObj_map h1, MapKept.run_checkKey hd hkey, MapKept.run_findKey hd u1, u2', u3, hks, harr]
      rcases ho with ho | ho <;> simp [execOp, ho, this]
theorem Sim.iter {ρ : Rho} {m : Hp} {w : World} (hs : Sim ρ m w) {a : Pos} {b : Blk} (ha : ρ a = some b) {mm : Option Pos} {since stepped : Nat} {seen : List Nat} (hc : m.at a = .mapIter mm since seen stepped) :
    ∃ m' : Option Nat, w.heap[b.r]? = some (.mapIter m' since seen.toArray stepped) ∧ (match (generalizing := false) mm with | Option.none => m' = Option.none | some a => ∃ b', ρ a = some b' ∧ m' = some b'.r) ∧ b.sh = 0 := by
  have := hs.obj _ _ ha
  rw [hc] at this
  exact this
theorem good_newObj {dst : Option Tmp} {s : Sem Next} (ht : TR ρ n t tmps) (hs : Sim ρ m w) {ob : Obj} {ro : RO} {k : Pos → RV} {v : Value}
    (hr : s.run P w = .ok (.value v) (w.alloc ob)) (hx : ∀ ρ' : Rho, ρ.sub ρ' → ObjR ρ' ro ⟨w.heap.size, 0, 0, .nilFunc⟩ (w.alloc ob)) (hv : ∀ ρ' : Rho, ρ' m.nx = some ⟨w.heap.size, 0, 0, .nilFunc⟩ → VR ρ' (k m.nx) v) :
    Good P n dst s ρ m w tmps (newK m ro fun a m => putd n dst (k a) t m) := by
  obtain ⟨h, nx, wm⟩ := m
  have hsub : ρ.sub (ρ.upd nx ⟨w.heap.size, 0, 0, .nilFunc⟩) := Rho.upd_sub _ hs.fresh
  obtain ⟨h1, h2⟩ := new_block hs ro 0 ob (w' := w.alloc ob) rfl rfl rfl rfl (hx _ hsub)
  exact good_put ht (gives_value hr) h1 h2 (hv _ (Rho.upd_same _ _ _))
theorem alloc_get (w : World) (ob : Obj) : (w.alloc ob).heap[w.heap.size]? = some ob := by show (w.heap.push _)[w.heap.size]? = _; simp
theorem good_makeMap (ht : TR ρ n t tmps) (hs : Sim ρ m w) {ty : TypeId} (ho : o.op = .makeMap ty Option.none) :
    Good P n o.dst (execOp (evT tmps) o) ρ m w tmps (newK m (.map [] 0) fun a m => putd n o.dst (.map a) t m) := by
  refine good_newObj ht hs (k := fun a => .map a) (ob := .map #[] 0) (v := .map (some w.heap.size)) ?_ (fun ρ' _ => ⟨#[], alloc_get _ _, rfl⟩) fun ρ' h => ?_
  · simp [execOp, ho, Instr.makeMap]
  · simp only [VR]; exact ⟨_, h, rfl⟩
theorem good_cRange (ht : TR ρ n t tmps) (hs : Sim ρ m w) {call : CallF} {ty : TypeId} {x : Operand} (ho : o.op = .range ty x) :
    Good P n o.dst (execOp (evT tmps) o) ρ m w tmps (cRange P (putd n o.dst) ty x call t m) := by
  unfold cRange
  have hx := cOpd_VR ht x
  cases hu : und P ty
  case map kt e =>
    simp only []
    have hu' := und_of hu (by simp)
    refine good_mapE (fun hm => ?_) fun a ha => good_mapK fun es c hc => ?_
    · rw [hm] at hx; simp only [VR] at hx
      refine good_newObj ht hs (k := fun a => .ptr a 0) (ob := .mapIter Option.none 0 #[] 0) (v := .pointer (some ⟨w.heap.size, 0, Option.none⟩)) ?_ (fun ρ' _ => ⟨Option.none, alloc_get _ _, rfl, rfl⟩) fun ρ' h => ?_
      · simp [execOp, ho, Instr.range, run_underlying hu', hx]
      · simp only [VR]; exact ⟨_, h, rfl⟩
    · rw [ha] at hx; simp only [VR] at hx
      obtain ⟨b, hb, hv⟩ := hx
      obtain ⟨es', h1, h2⟩ := hs.map hb hc
      refine good_newObj ht hs (k := fun a => .ptr a 0) (ob := .mapIter (some b.r) c #[] c) (v := .pointer (some ⟨w.heap.size, 0, Option.none⟩)) ?_ (fun ρ' hsub => ⟨some b.r, alloc_get _ _, ⟨b, hsub _ _ hb, rfl⟩, rfl⟩) fun ρ' h => ?_
      · simp [execOp, ho, Instr.range, run_underlying hu', hv, MapKept.run_getObj_map h1]
      · simp only [VR]; exact ⟨_, h, rfl⟩
  all_goals exact good_bad
theorem inL_eq (x : Nat) (l : List Nat) : inL x l = l.contains x := by
  induction l with
  | nil => rfl
  | cons y l ih =>
    show (match Nat.beq x y with | true => true | false => inL x l) = _
    rw [ih, List.contains_cons]
    cases h : Nat.beq x y
    · simp [Nat.ne_of_beq_eq_false h]
    · simp [Nat.eq_of_beq_eq_true h]
def LeftR (ρ : Rho) (l : List ME) (es' : List MapEntry) (seen : List Nat) : Prop := MRs ρ l (es'.filter fun e => !seen.contains e.born)
theorem good_leftK {dst : Option Tmp} {s : Sem Next} {seen : List Nat} {since : Nat} : ∀ (es : List ME) (es' : List MapEntry) (c : List ME → OR), MRs ρ es es' →
    (∀ l, LeftR ρ l es' seen → (∀ x ∈ es', x.born < since) → Good P n dst s ρ m w tmps (c l)) → Good P n dst s ρ m w tmps (leftK seen since es c)
  | [], es', c, h, hc => by
    simp only [MRs] at h; subst h
    exact hc [] rfl (by simp)
  | e :: es, es', c, h, hc => by
    obtain ⟨e', l', rfl, ⟨h1, h2, h3⟩, h4⟩ := h
    unfold leftK
    cases hlt : Nat.blt e.born since with
    | false => exact good_bad
    | true =>
      have hlt' : e'.born < since := by rw [← h3]; simpa [Nat.blt_eq] using hlt
      simp only []
      rw [inL_eq]
      cases hin : seen.contains e.born with
      | true =>
        refine good_leftK es l' c h4 fun l hl hall => hc l ?_ ?_
        · unfold LeftR
          rw [List.filter_cons]
          rw [h3] at hin
          simp only [hin]
          exact hl
        · intro x hx
          rcases List.mem_cons.1 hx with rfl | hx
          · exact hlt'
          · exact hall x hx
      | false =>
        refine good_leftK es l' _ h4 fun l hl hall => hc (e :: l) ?_ ?_
        · unfold LeftR
          rw [List.filter_cons]
          rw [h3] at hin
          simp only [hin]
          exact ⟨_, _, rfl, ⟨h1, h2, h3⟩, hl⟩
        · intro x hx
          rcases List.mem_cons.1 hx with rfl | hx
          · exact hlt'
          · exact hall x hx
theorem leftOf_list (es : Array MapEntry) (seen : List Nat) : (leftOf es seen.toArray).toList = es.toList.filter fun e => !seen.contains e.born := by
  unfold leftOf
  simp
theorem good_cNext (ht : TR ρ n t tmps) (hs : Sim ρ m w) {call : CallF} {it : Operand} {str : Bool} (ho : o.op = .next it str) :
    Good P n o.dst (execOp (evT tmps) o) ρ m w tmps (cNext (putd n o.dst) it str call t m) := by
  unfold cNext
  cases str with
  | true => exact good_bad
  | false =>
    simp only []
    have hx := cOpd_VR ht it
    refine good_ptrK fun b o' he => ?_
    cases o' with
    | succ o' => exact good_bad
    | zero =>
      rw [he] at hx; simp only [VR] at hx
      obtain ⟨bl, hb, hv⟩ := hx
      simp only []
      have over : VR ρ (.tuple [.bool false]) (.tuple #[.bool false]) := by simp only [VR]; exact ⟨_, rfl, VRs.cons VR_bool VRs.nil⟩
      split
      · rename_i since seen last hc
        obtain ⟨m', h1, h2, hsh⟩ := hs.iter hb hc
        simp only [] at h2; subst h2
        refine good_same ht hs (v := .tuple #[.bool false]) ?_ over
        simp [execOp, ho, hv, hsh, Instr.next, getObj, Sem.run, h1]
      · rename_i a since seen last hc
        obtain ⟨m', h1, h2, hsh⟩ := hs.iter hb hc
        simp only [] at h2
        obtain ⟨bm, hbm, rfl⟩ := h2
        refine good_mapK fun es clock hmc => good_iteK (fun hcl => ?_) fun _ => good_bad
        obtain ⟨es', g1, g2⟩ := hs.map hbm hmc
        rw [Bool.and_eq_true] at hcl
        have hle := Nat.le_of_ble_eq_true hcl.2
        refine good_leftK es es'.toList _ g2 fun l hl hall => ?_
        have hll := leftOf_list es' seen
        unfold LeftR at hl
        rw [← hll] at hl
        have hrun := run_next_at (P := P) w o.type bl.r bm.r since last seen.toArray es' clock h1 g1 hall hle
        cases l with
        | nil =>
          simp only [MRs] at hl
          rcases hrun with ⟨_, hr⟩ | ⟨e', he', _⟩
          · exact good_same ht hs (v := .tuple #[.bool false]) (by simp [execOp, ho, hv, hsh, hr]) over
          · rw [hl] at he'; simp at he'
        | cons e l =>
          cases l with
          | cons => exact good_bad
          | nil =>
            obtain ⟨e1, l1, hl1, ⟨k1, k2, k3⟩, hl2⟩ := hl
            simp only [MRs] at hl2; subst hl2
            rcases hrun with ⟨h0, _⟩ | ⟨e', he', w1, hw1, hr⟩
            · have : (leftOf es' seen.toArray).toList.length = 0 := by simpa using h0
              rw [hl1] at this; simp at this
            · rw [hl1] at he'
              have := List.mem_singleton.1 he'; subst this
              have hheap : w1.heap = w.heap ∧ w1.os = w.os ∧ w1.tape = w.tape ∧ w1.output = w.output := by rcases hw1 with rfl | rfl <;> exact ⟨rfl, rfl, rfl, rfl⟩
              have hlt : bl.r < w.heap.size := hs.rlt _ _ hb (by rw [hc]; simp)
              obtain ⟨e1', e2'⟩ := put_block hs hb (by rw [hc]; trivial) (.mapIter (some a) since (seen ++ [e.born]) clock) (w' := ChangeMaps.setBlock w1 bl.r (.mapIter (some bm.r) since (seen.toArray.push e'.born) clock))
                (by simp [ChangeMaps.setBlock, hheap.1]) (fun r hr => by simp [ChangeMaps.setBlock, hheap.1, Ne.symm hr]) hheap.2.1 hheap.2.2.1 hheap.2.2.2
                ⟨some bm.r, by simp [ChangeMaps.setBlock, hheap.1, hlt, k3], ⟨bm, hbm, rfl⟩, hsh⟩
              refine good_put ht (gives_value (v := .tuple #[.bool true, e'.key, e'.val]) (by simp [execOp, ho, hv, hsh, hr])) e1' e2' ?_
              simp only [VR]
              exact ⟨_, rfl, VRs.cons VR_bool (VRs.cons k1 (VRs.cons k2 VRs.nil))⟩
      · exact good_bad
end
end Go.Ref
end
section
namespace Go.Ref
open Go
section
variable {P : Program} {n : Nat} {ρ : Rho} {m : Hp} {w : World} {tmps : Array Value} {t : Tr RV} {o : Oper}
theorem good_lastK {dst : Option Tmp} {s : Sem Next} : ∀ {l : List Nat} {c : Nat → OR}, (∀ x, l.getLast? = some x → Good P n dst s ρ m w tmps (c x)) → Good P n dst s ρ m w tmps (lastK l c)
  | [], _, _ => good_bad
  | [x], _, h => h x rfl
  | _ :: y :: l, _, h => good_lastK (l := y :: l) fun x hx => h x (by simpa using hx)
theorem good_findB {dst : Option Tmp} {s : Sem Next} {b : Nat} : ∀ {es : List ME} {es' : List MapEntry} {c : ME → OR}, MRs ρ es es' → (∀ e e', MR ρ e e' → es'.find? (·.born == b) = some e' → Good P n dst s ρ m w tmps (c e)) → Good P n dst s ρ m w tmps (findB b es c)
  | [], _, _, _, _ => good_bad
  | e :: es, es', c, h, hc => by
    obtain ⟨e', l', rfl, hm, h4⟩ := h
    unfold findB
    cases hb : Nat.beq e.born b with
    | true => exact hc e e' hm (by rw [List.find?_cons, ← hm.2.2]; simp [Nat.eq_of_beq_eq_true hb])
    | false => exact good_findB h4 fun e1 e1' h1 h2 => hc e1 e1' h1 (by rw [List.find?_cons, ← hm.2.2]; simp [show (e.born == b) = false from by simp [Nat.ne_of_beq_eq_false hb], h2])
theorem good_cEntry (ht : TR ρ n t tmps) (hs : Sim ρ m w) {call : CallF} {it : Operand} (ho : o.op = .entry it) :
    Good P n o.dst (execOp (evT tmps) o) ρ m w tmps (cEntry (putd n o.dst) it call t m) := by
  unfold cEntry
  have hx := cOpd_VR ht it
  refine good_ptrK fun b o' he => ?_
  cases o' with
  | succ o' => exact good_bad
  | zero =>
    rw [he] at hx; simp only [VR] at hx
    obtain ⟨bl, hb, hv⟩ := hx
    simp only []
    split
    · rename_i a since seen last hc
      obtain ⟨m', h1, h2, hsh⟩ := hs.iter hb hc
      simp only [] at h2
      obtain ⟨bm, hbm, rfl⟩ := h2
      refine good_lastK fun s hs' => good_mapK fun es clock hmc => good_iteK (fun hcl => ?_) fun _ => good_bad
      obtain ⟨es', g1, g2⟩ := hs.map hbm hmc
      have hcl := Nat.eq_of_beq_eq_true hcl
      refine good_findB g2 fun e e' hm hf => ?_
      have hf' : es'.find? (·.born == s) = some e' := by rw [← Array.find?_toList]; exact hf
      refine good_same ht hs (v := .tuple #[e'.key, e'.val]) ?_ (by simp only [VR]; exact ⟨_, rfl, VRs.cons hm.1 (VRs.cons hm.2.1 VRs.nil)⟩)
      have hback : seen.toArray.back? = some s := by simpa using hs'
      have : (Instr.entry (.pointer (some ⟨bl.r, 0, Option.none⟩))).run P w = .ok (.tuple #[e'.key, e'.val]) w := by
        simp only [Instr.entry, getObj, Sem.run_bind, Sem.run, h1, g1, Result.andThen, hback, hcl, bne_self_eq_false, Bool.false_eq_true, if_false, hf']
        rfl
      simp [execOp, ho, hv, hsh, this]
    · rename_i a s last hc
      have hobj := hs.obj _ _ hb
      rw [hc] at hobj
      obtain ⟨r, since, seen, h1, ⟨bm, hbm, rfl⟩, hsh, hback⟩ := hobj
      refine good_mapK fun es clock hmc => good_iteK (fun hcl => ?_) fun _ => good_bad
      obtain ⟨es', g1, g2⟩ := hs.map hbm hmc
      have hcl := Nat.eq_of_beq_eq_true hcl
      refine good_findB g2 fun e e' hm hf => ?_
      have hf' : es'.find? (·.born == s) = some e' := by rw [← Array.find?_toList]; exact hf
      refine good_same ht hs (v := .tuple #[e'.key, e'.val]) ?_ (by simp only [VR]; exact ⟨_, rfl, VRs.cons hm.1 (VRs.cons hm.2.1 VRs.nil)⟩)
      have : (Instr.entry (.pointer (some ⟨bl.r, 0, Option.none⟩))).run P w = .ok (.tuple #[e'.key, e'.val]) w := by
        simp only [Instr.entry, getObj, Sem.run_bind, Sem.run, h1, g1, Result.andThen, hback, hcl, bne_self_eq_false, Bool.false_eq_true, if_false, hf']
        rfl
      simp [execOp, ho, hv, hsh, this]
    · exact good_bad
theorem run_builtin {c : Call} {b : Builtin} (hc : c.callee = .builtin b) (ho : o.op = .call c) : execOp (evT tmps) o = builtin b c.argTypes o.type (c.args.map fun | .const _ => true | _ => false) (c.args.map (evT tmps)) := by
  simp only [execOp, ho, resolve, hc]
  rfl
theorem elemS_some {ty e : TypeId} (he : elemS P ty = some e) : P.underlying ty = some (.slice e) := by
  unfold elemS at he
  cases hu : und P ty <;> rw [hu] at he <;> simp at he
  subst he; exact und_of hu (by simp)
theorem good_cBuiltin (ht : TR ρ n t tmps) (hs : Sim ρ m w) {call : CallF} {c : Call} {b : Builtin} (hc : c.callee = .builtin b) (ho : o.op = .call c) :
    Good P n o.dst (execOp (evT tmps) o) ρ m w tmps (cBuiltin P (putd n o.dst) b c.args.toList c.argTypes.toList call t m) := by
  have hex := run_builtin (tmps := tmps) hc ho
  obtain ⟨callee, args, argTypes⟩ := c
  simp only [] at hex hc
  obtain ⟨args⟩ := args
  obtain ⟨argTypes⟩ := argTypes
  simp only []
  unfold cBuiltin
  split
  ·
    rename_i x ty
    have hx := cOpd_VR ht x
    cases hu : und P ty
    case string =>
      have hu' := und_of hu (by simp)
      simp only []
      refine good_strK fun s he => ?_
      rw [he] at hx; simp only [VR] at hx
      obtain ⟨a, hv, ha⟩ := hx
      refine good_same ht hs (v := .int .i64 (a.size : Int)) ?_ (by simp only [VR]; rw [← ha]; simp)
      rw [hex]
      simp [builtin, Builtin.len_, run_underlying hu', hv, goInt]
    case slice e =>
      have hu' := und_of hu (by simp)
      simp only []
      split
      · rename_i a j ne he
        rw [he] at hx; simp only [VR] at hx
        obtain ⟨b0, bj, A, n0, c0, hb, hj, hb0, hv, hbj, hne⟩ := hx
        refine good_same ht hs (v := .int .i64 (n0 : Int)) ?_ (by simp only [VR]; exact ⟨bj, _, hj, hbj, rfl, hne⟩)
        rw [hex]
        simp [builtin, Builtin.len_, run_underlying hu', hv, goInt]
      · refine good_sliceE (fun he => ?_) fun a o' l c u he => ?_
        · rw [he] at hx; simp only [VR] at hx
          refine good_same ht hs (v := .int .i64 0) ?_ (by simp only [VR]; rfl)
          rw [hex]
          simp [builtin, Builtin.len_, run_underlying hu', hx, goInt]
        · rw [he] at hx; simp only [VR] at hx
          obtain ⟨bb, off, c', hb, hv, _⟩ := hx
          refine good_same ht hs (v := .int .i64 (l : Int)) ?_ (by simp only [VR]; rfl)
          rw [hex]
          simp [builtin, Builtin.len_, run_underlying hu', hv, goInt]
    case map k e =>
      have hu' := und_of hu (by simp)
      simp only []
      refine good_mapE (fun he => ?_) fun a he => good_mapK fun es c hmc => ?_
      · rw [he] at hx; simp only [VR] at hx
        refine good_same ht hs (v := .int .i64 0) ?_ (by simp only [VR]; rfl)
        rw [hex]
        simp [builtin, Builtin.len_, run_underlying hu', hx, goInt]
      · rw [he] at hx; simp only [VR] at hx
        obtain ⟨bb, hb, hv⟩ := hx
        obtain ⟨es', g1, g2⟩ := hs.map hb hmc
        have hlen : es.length = es'.size := by
          have : ∀ {a : List ME} {b : List MapEntry}, MRs ρ a b → a.length = b.length := by
            intro a
            induction a with
            | nil => intro b h; simp only [MRs] at h; subst h; rfl
            | cons x a ih => intro b h; obtain ⟨_, _, rfl, _, h4⟩ := h; simp [ih h4]
          simpa using this g2
        refine good_same ht hs (v := .int .i64 (es'.size : Int)) ?_ (by simp only [VR]; rw [hlen]; rfl)
        rw [hex]
        simp [builtin, Builtin.len_, run_underlying hu', hv, goInt, MapKept.run_getObj_map g1]
    all_goals exact good_bad
  ·
    rename_i x y tt tx
    cases hu1 : und P tt <;> try exact good_bad
    cases hu2 : und P tx <;> try exact good_bad
    rename_i e ex
    simp only []
    have h1 := und_of hu1 (by simp)
    have h2 := und_of hu2 (by simp)
    cases hk : ((zeroT P e).known && Nat.beq (llen (zeroT P e).cells) (size P e)) with
    | false => exact good_bad
    | true =>
      simp only [Bool.and_eq_true] at hk
      obtain ⟨hk1, hk2⟩ := hk
      obtain ⟨i, z, hi, hz, hze⟩ := zeroT_known hk1
      have hv : VR ρ (zeroT P e) z := by rw [hze]; exact VR_ofV ρ z
      have hvc := hv.cells (known_ne hk1)
      have hsi : size P e = i.size := by simp [size, Program.cellsOf, hi]
      have hby : P.bytesOf e = i.bytes := by simp [Program.bytesOf, hi]
      have hzs : z.cells.size = i.size := by
        have h1 : (zeroT P e).cells.length = z.cells.size := by simpa using hvc.length
        rw [llen_eq] at hk2
        have := Nat.eq_of_beq_eq_true hk2
        omega
      simp only []
      rw [hsi, hby]
      refine good_append ht hs h1 h2 hi hz hzs (ty := o.type) (cOpd_VR ht x) (cOpd_VR ht y) fun v w' hr => ?_
      rw [hex]
      simp [builtin, hr]
  ·
    rename_i x k ty rest
    cases hme : mapElem P ty with
    | none => exact good_bad
    | some p =>
      obtain ⟨kt, e⟩ := p
      simp only []
      have hu := mapElem_some hme
      cases hz2 : scalarT P kt with
      | false => exact good_bad
      | true =>
        simp only []
        have hd := scalarT_some hz2
        have hx := cOpd_VR ht x
        have hk := cOpd_VR ht k
        refine good_mapE (fun hm => good_bad) fun a ha => good_mapK fun es c hmc => good_iteK (fun hki => ?_) fun _ => good_bad
        rw [ha] at hx; simp only [VR] at hx
        obtain ⟨b, hb, hxv⟩ := hx
        obtain ⟨es', h1, h2⟩ := hs.map hb hmc
        have hkey := isKey_of hki hk
        refine good_delK hki hk es es'.toList 0 _ h2 fun es₂ es₂' hm hup => ?_
        obtain ⟨w', hr, e1, e2⟩ := put_map (P := P) (es₂' := es₂'.toArray) (c₂ := c) hs hb hmc hm
        refine good_put ht (gives_value (v := .tuple #[]) ?_) e1 e2 (VR_undef ρ)
        have : (Builtin.delete_ (.mk (ty :: rest)) o.type #[evT tmps x, evT tmps k]).run P w = .ok (.tuple #[]) w' := by
          rcases hup with ⟨u1, u2⟩ | ⟨j, u, u1, u2, u3⟩
          · subst u2
            simp [Builtin.delete_, run_underlying hu, hxv, MapKept.run_getObj_map h1, MapKept.run_checkKey hd hkey, MapKept.run_findKey hd u1]
            have hr' : (setObj b.r (.map es' c)).run P w = .ok () w' := by simpa using hr
            rw [hr']
            rfl
          · subst u3
            rw [Nat.zero_add] at u1
            have harr : es'.eraseIdxIfInBounds j = (es'.toList.eraseIdx j).toArray := by
              apply Array.toList_inj.1
              have : j < es'.size := by simpa using u2
              simp [Array.eraseIdxIfInBounds, this]
            simp [Builtin.delete_, run_underlying hu, hxv, MapKept.run_getObj_map h1, MapKept.run_checkKey hd hkey, MapKept.run_findKey hd u1, harr, hr]
        rw [hex]
        simp [builtin, this]
  ·
    rename_i x ty
    cases he : elemS P ty with
    | none => exact good_bad
    | some e =>
      have hu := elemS_some he
      simp only []
      cases hk : ((zeroT P e).known && Nat.beq (llen (zeroT P e).cells) (size P e)) with
      | false => exact good_bad
      | true =>
        simp only [Bool.and_eq_true] at hk
        obtain ⟨hk1, hk2⟩ := hk
        obtain ⟨i, z, hi, hz, hze⟩ := zeroT_known hk1
        have hv : VR ρ (zeroT P e) z := by rw [hze]; exact VR_ofV ρ z
        have hvc := hv.cells (known_ne hk1)
        simp only []
        have hx := cOpd_VR ht x
        refine good_sliceE (fun he => ?_) fun a o' l c u he => ?_
        · rw [he] at hx; simp only [VR] at hx
          refine good_same ht hs (v := .tuple #[]) ?_ (VR_undef ρ)
          rw [hex]
          simp [builtin, Builtin.clear_, run_underlying hu, hx]
        · rw [he] at hx; simp only [VR] at hx
          obtain ⟨bb, off, c', hb, hxv, g1, g2, g3, _⟩ := hx
          cases l with
          | zero =>
            refine good_same ht hs (v := .tuple #[]) ?_ (VR_undef ρ)
            rw [hex]
            simp [builtin, Builtin.clear_, run_underlying hu, hxv]
          | succ l =>
            simp only []
            refine good_iteK (fun hall => good_cellsK fun cs hcs => good_lputK fun hle => ?_) fun _ => good_bad
            have hoff : off = bb.sh + o' := by rcases g3 with g3 | g3; (exfalso; omega); exact g3
            subst hoff
            have hrow : VRs ρ (reps (l + 1) (zeroT P e).cells) (Builtin.zeroCells z.cells (l + 1)).toList := by
              unfold Builtin.zeroCells
              rw [zero_row _ _]; exact VRs_reps hvc (l + 1)
            rw [allCells_eq] at hall
            obtain ⟨w', hr, h1, h2⟩ := objR_put (P := P) hs hb hcs (o := o') hrow hle (fun v hv => by
              obtain ⟨j, hj⟩ := List.getElem?_of_mem hv
              have hl := hrow.length
              have hjl : j < (reps (l + 1) (zeroT P e).cells).length := by rw [hl]; exact (List.getElem?_eq_some_iff.1 hj).1
              obtain ⟨u, hu1, hu2⟩ := hrow.get j _ (List.getElem?_eq_getElem hjl)
              rw [hj] at hu1; cases hu1
              exact hu2.oneCell (hall _ (List.getElem_mem hjl)))
            refine good_put ht (gives_value (v := .tuple #[]) ?_) h1 h2 (VR_undef ρ)
            rw [hex]
            simp [builtin, Builtin.clear_, run_underlying hu, hxv, run_zeroValue hi hz, hr]
  ·
    rename_i x y
    have hx := cOpd_VR ht x
    have hy := cOpd_VR ht y
    refine good_intK fun k a ha => good_intK fun k' b hb => ?_
    rw [ha] at hx; rw [hb] at hy
    simp only [VR] at hx hy
    refine good_same ht hs (v := .int k (if b > a then b else a)) ?_ ?_
    · rw [hex]
      simp [builtin, Builtin.max_, hx, hy, Builtin.max2]
    · simp only [VR]
      rw [ile_eq]
      by_cases h : b ≤ a
      · simp [h, Int.not_lt.2 h]
      · simp [h, Int.not_le.1 h]
  ·
    rename_i x y
    have hx := cOpd_VR ht x
    have hy := cOpd_VR ht y
    refine good_intK fun k a ha => good_intK fun k' b hb => ?_
    rw [ha] at hx; rw [hb] at hy
    simp only [VR] at hx hy
    refine good_same ht hs (v := .int k (if b < a then b else a)) ?_ ?_
    · rw [hex]
      simp [builtin, Builtin.min_, hx, hy, Builtin.min2]
    · simp only [VR]
      rw [ile_eq]
      by_cases h : a ≤ b
      · simp [h, Int.not_lt.2 h]
      · simp [h, Int.not_le.1 h]
  ·
    rename_i x ty
    have hx := cOpd_VR ht x
    cases hu : und P ty
    case slice e =>
      have hu' := und_of hu (by simp)
      simp only []
      refine good_sliceE (fun he => ?_) fun a o' l c u he => ?_
      · rw [he] at hx; simp only [VR] at hx
        refine good_same ht hs (v := .int .i64 0) ?_ (by simp only [VR]; rfl)
        rw [hex]
        simp [builtin, Builtin.cap_, run_underlying hu', hx, goInt]
      · cases u with
        | some z => exact good_bad
        | none =>
          rw [he] at hx; simp only [VR] at hx
          obtain ⟨bb, off, c', hb, hv, _, _, _, hcc⟩ := hx
          have hcc : c' = c := hcc
          subst hcc
          refine good_same ht hs (v := .int .i64 (c' : Int)) ?_ (by simp only [VR]; rfl)
          rw [hex]
          simp [builtin, Builtin.cap_, run_underlying hu', hv, goInt]
    all_goals exact good_bad
  · exact good_bad
def CallOk (P : Program) (call : CallF) : Prop :=
  ∀ f args m v m', call (.fn f) args m = .ok v m' → ∀ ρ w (vs : Array Value), Sim ρ m w → VRs ρ args vs.toList →
    (∃ fn, P.funcs[f]? = some fn ∧ (fn.name == "runtime.NumGoroutine") = false ∧ fn.body.isNone = false) ∧
    ∃ ρ' w' v', FunRet P f vs w v' w' ∧ Ext ρ m w ρ' m' w' ∧ Sim ρ' m' w' ∧ VR ρ' v v'
theorem good_cCall {call' : CallF} (hcall : CallOk P call') (ht : TR ρ n t tmps) (hs : Sim ρ m w) {c : Call} {f : Operand} (hc : c.callee = .value f) (ho : o.op = .call c) :
    Good P n o.dst (execOp (evT tmps) o) ρ m w tmps (cCall (putd n o.dst) f (c.args.toList.map cOpd) call' t m) := by
  unfold cCall
  have hf := cOpd_VR ht f
  split
  · rename_i k first cap he
    rw [he] at hf
    simp only [VR] at hf
    obtain ⟨fa, ca, hfv, h1, h2⟩ := hf
    have hargs : VRs ρ (first ++ (argsOf (c.args.toList.map cOpd) t ++ cap)) (fa ++ c.args.map (evT tmps) ++ ca).toList := by
      simp only [Array.toList_append, Array.toList_map, List.append_assoc]
      exact h1.append ((VRs_argsOf ht _).append h2)
    cases hr : call' (.fn k) (first ++ (argsOf (c.args.toList.map cOpd) t ++ cap)) m with
    | bad => exact good_bad
    | ok v m' =>
      obtain ⟨⟨fn, g1, g2, g3⟩, ρ', w', v', hret, he', hs', hv'⟩ := hcall _ _ _ _ _ hr ρ w _ hs hargs
      refine good_put ht (gives_enter (f := k) (args := fa ++ c.args.map (evT tmps) ++ ca) (w1 := w) ?_ hret) he' hs' hv'
      have g2' : fn.name ≠ "runtime.NumGoroutine" := by simpa using g2
      have g3' : fn.body ≠ Option.none := by intro e; rw [e] at g3; simp at g3
      simp [execOp, ho, resolve, hc, hfv, Deferred.ofValue, invoke, callFunc, g1, g2', g3']
  · exact good_bad
end
end Go.Ref
end
section
namespace Go.Ref
open Go
section
variable {P : Program} {n : Nat} {ρ : Rho} {m : Hp} {w : World} {tmps : Array Value} {t : Tr RV} {o : Oper} {call : CallF}
theorem cOp_good (hcall : CallOk P call) (ht : TR ρ n t tmps) (hs : Sim ρ m w) : Good P n o.dst (execOp (evT tmps) o) ρ m w tmps (cOp P n o.dst o.op call t m) := by
  cases h : o.op
  case move x => exact good_move ht hs (.inl h)
  case assign x => exact good_move ht hs (.inr h)
  case pick c a b => exact good_pick ht hs h
  case alloc ty => exact good_alloc ht hs h
  case box ty x => exact good_box ht hs h
  case build ty ps => exact good_cBuild ht hs h
  case buildSlice ty len ps => exact good_cBuildSlice ht hs h
  case load ty x =>
    unfold cOp
    simp only []
    by_cases hv : validT P ty = true
    · rw [if_pos hv]; exact good_load ht hs h (validT_und hv)
    · rw [if_neg hv]; exact good_bad
  case store ty x v =>
    unfold cOp
    simp only []
    by_cases hv : validT P ty = true
    · rw [if_pos hv]; exact good_store ht hs h (validT_und hv)
    · rw [if_neg hv]; exact good_bad
  case nilCheck x => exact good_nilCheck ht hs h
  case binOp op ty x y yt => exact good_cBin ht hs h
  case unOp op ty x => exact good_cUn ht hs h
  case convert s d x => exact good_cConv ht hs h
  case makeInterface ty x =>
    unfold cOp
    cases hu : und P ty
    case interface ms => simp only [hu]; exact good_bad
    case invalid => simp only [hu]; exact good_bad
    all_goals
      simp only [hu]
      exact good_makeInterface ht hs h (und_of hu (by simp)) (by simp)
  case makeFunc fn a b =>
    unfold cOp
    cases fn
    case func f => exact good_makeFunc ht hs h
    all_goals exact good_bad
  case makeMap ty r =>
    cases r with
    | none => exact good_makeMap ht hs h
    | some x => exact good_bad
  case makeSlice ty l c => exact good_cMakeSlice ht hs h
  case slice ty x lo hi mx => exact good_cSlice ht hs h
  case fieldAddr ty x f => exact good_fieldAddr ht hs h
  case field ty x f => exact good_field ht hs h
  case indexAddr ty x i => exact good_indexAddr ht hs h
  case index ty x i => exact good_cIndex ht hs h
  case lookup ty x k ok => exact good_cLookup ht hs h
  case mapUpdate ty x k v => exact good_cMapUpdate ht hs (.inl h)
  case insert ty x k v => exact good_cMapUpdate ht hs (.inr h)
  case range ty x => exact good_cRange ht hs h
  case next it str => exact good_cNext ht hs h
  case entry it => exact good_cEntry (call := call) ht hs h
  case extract x i => exact good_extract ht hs h
  case call c =>
    unfold cOp
    simp only []
    cases hc : c.callee with
    | builtin b => exact good_cBuiltin ht hs hc h
    | value f => exact good_cCall hcall ht hs hc h
    | invoke r nm => exact good_bad
  all_goals exact good_bad
end
def DR (ρ : Rho) : DF → Deferred → Prop
  | .call fn cap args, d => ∃ (ca aas : Array Value), d = { target := .fn fn ca, args := aas } ∧ VRs ρ cap ca.toList ∧ VRs ρ args aas.toList
  | .coll _, _ => False
def DsR (ρ : Rho) : List DF → List Deferred → Prop
  | [], l => l = []
  | d :: ds, l => ∃ d' l', l = d' :: l' ∧ DR ρ d d' ∧ DsR ρ ds l'
theorem DR.mono {ρ ρ' : Rho} (h : ρ.sub ρ') {d : DF} {d' : Deferred} (k : DR ρ d d') : DR ρ' d d' := by
  cases d with
  | call fn cap args => obtain ⟨ca, aas, he, h1, h2⟩ := k; exact ⟨ca, aas, he, VRs.mono h _ _ h1, VRs.mono h _ _ h2⟩
  | coll a => exact k.elim
theorem DsR.mono {ρ ρ' : Rho} (h : ρ.sub ρ') : ∀ {l : List DF} {l' : List Deferred}, DsR ρ l l' → DsR ρ' l l'
  | [], _, k => k
  | _ :: _, _, ⟨d', l', he, h1, h2⟩ => ⟨d', l', he, h1.mono h, DsR.mono h h2⟩
structure St (ρ : Rho) (m : Hp) (w : World) (x : Aux) (n : Nat) (t : Tr RV) (a : Act) : Prop where
  tr : TR ρ n t a.tmps
  sim : Sim ρ m w
  ds : DsR ρ x.ds a.defers
def StepOp (P : Program) (ops : Array Oper) (i : Nat) (a : Act) (w : World) (a' : Act) (w' : World) : Prop :=
  ∀ (b : Frame) (k : List Item) (cs : List Frame) (rest : List Nat), Steps P (lone (b.at a (.inRegion ops (i :: rest) :: k)) cs w) (lone (b.at a' (.inRegion ops rest :: k)) cs w')
theorem eval_evT (a : Act) : a.eval = evT a.tmps := funext fun x => by cases x <;> rfl
section
variable {P : Program} {n : Nat} {ρ : Rho} {m : Hp} {w : World} {t : Tr RV} {o : Oper} {call : CallF} {ops : Array Oper} {i : Nat} {a : Act}
theorem stepOp_gives (ho : ops[i]? = some o) (hw : Region.wanted o (yielded ops a.tmps) = true) {v : Value} {w' : World} (hg : Gives P (execOp (evT a.tmps) o) w v w') : StepOp P ops i a w (a.put o.dst v) w' := by
  intro b k cs rest
  have := hg (b.at a (.inRegion ops (i :: rest) :: k)) cs ops i rest k rfl rfl (by rw [← eval_evT]; exact stepG_op ho hw)
  rwa [Frame.finish_at, ho] at this
theorem stepOp_skip (ho : ops[i]? = some o) (hw : Region.wanted o (yielded ops a.tmps) = false) : StepOp P ops i a w (a.put o.dst Go.undef) w := by
  intro b k cs rest
  have := step_op_skip (P := P) (b := b) (a := a) (k := k) (cs := cs) (w := w) (ops := ops) (i := i) (rest := rest) (by simp [ho, hw])
  rw [ho] at this
  exact .one this
theorem put_tmps (a : Act) (dst : Option Tmp) (v : Value) : (a.put dst v).tmps = putA a.tmps dst v := by cases dst <;> rfl
theorem put_defers (a : Act) (dst : Option Tmp) (v : Value) : (a.put dst v).defers = a.defers := by cases dst <;> rfl
def OperOk (P : Program) (n : Nat) (ops : Array Oper) (i : Nat) (o : Oper) (ρ : Rho) (m : Hp) (w : World) (a : Act) (r : OR) : Prop :=
  match r with
  | .bad => True
  | .ok t' m' => ∃ ρ' v w', StepOp P ops i a w (a.put o.dst v) w' ∧ Ext ρ m w ρ' m' w' ∧ Sim ρ' m' w' ∧ TR ρ' n t' (a.put o.dst v).tmps
  | .dfr _ _ _ => False
theorem cOper_ok (hcall : CallOk P call) (ho : ops[i]? = some o) (ht : TR ρ n t a.tmps) (hs : Sim ρ m w) : OperOk P n ops i o ρ m w a (cOper P n ops o call t m) := by
  have runs : Region.wanted o (yielded ops a.tmps) = true → OperOk P n ops i o ρ m w a (cOp P n o.dst o.op call t m) := by
    intro hw
    have hg := cOp_good (o := o) hcall ht hs
    cases hr : cOp P n o.dst o.op call t m with
    | bad => trivial
    | dfr d t' m' => rw [hr] at hg; exact hg.elim
    | ok t' m' =>
      rw [hr] at hg
      obtain ⟨ρ', v, w', h1, h2, h3, h4⟩ := hg
      exact ⟨ρ', v, w', stepOp_gives ho hw h1, h2, h3, by rw [put_tmps]; exact h4⟩
  have skips : Region.wanted o (yielded ops a.tmps) = false → OperOk P n ops i o ρ m w a (putd n o.dst undef t m) := by
    intro hw
    have hstep := stepOp_skip (P := P) (w := w) ho hw
    unfold putd
    cases hd : o.dst with
    | none =>
      rw [hd] at hstep
      exact ⟨ρ, Go.undef, w, by rw [hd]; exact hstep, .refl _ _ _, hs, by rw [hd]; exact ht⟩
    | some d =>
      cases hlt : Nat.blt d n with
      | false => simp only [hlt]; exact trivial
      | true =>
        simp only [hlt]
        rw [hd] at hstep
        refine ⟨ρ, Go.undef, w, by rw [hd]; exact hstep, .refl _ _ _, hs, ?_⟩
        rw [hd]
        exact ht.set (by simpa [Nat.blt_eq] using hlt) (VR_undef ρ)
  unfold cOper
  cases hall : o.op.operands.all okOpd with
  | false => trivial
  | true =>
    cases hg : o.guard with
    | none => exact runs (by simp [Region.wanted, hg])
    | some p =>
      obtain ⟨j, want⟩ := p
      simp only []
      have hwant : ∀ r, yielded ops a.tmps j = r → Region.wanted o (yielded ops a.tmps) = (r == some want) := by
        intro r hr; simp [Region.wanted, hg, hr]
      cases hd : (ops[j]?).bind (·.dst) with
      | none => exact skips (by rw [hwant Option.none (by simp [yielded, hd])]; rfl)
      | some d =>
        simp only []
        cases hlt : Nat.blt d n with
        | false => trivial
        | true =>
          have hlt' : d < a.tmps.size := by rw [ht.1]; simpa [Nat.blt_eq] using hlt
          have hv := ht.2 d
          have hget : a.tmps.getD d Go.undef = a.tmps[d] := by simp [Array.getD, hlt']
          have hget' : a.tmps[d]? = some a.tmps[d] := Array.getElem?_eq_getElem hlt'
          rw [hget] at hv
          simp only []
          cases hx : Tr.get undef (path d) t <;> try exact trivial
          case bool b =>
            rw [hx] at hv; simp only [VR] at hv
            have hy : yielded ops a.tmps j = some b := by unfold yielded; rw [hd, Option.bind_some, hget', hv]
            simp only []
            cases hb : b == want with
            | true => exact runs (by rw [hwant _ hy]; simpa using hb)
            | false => exact skips (by rw [hwant _ hy]; simpa using hb)
          case tuple l =>
            rw [hx] at hv; simp only [VR] at hv
            obtain ⟨cs, hv, _⟩ := hv
            have hy : yielded ops a.tmps j = Option.none := by unfold yielded; rw [hd, Option.bind_some, hget', hv]
            exact skips (by rw [hwant _ hy]; rfl)
theorem cSeq_ok (hcall : CallOk P call) : ∀ (os : List Oper) (j : Nat), ops.toList.drop j = os → ∀ (x : Aux) (t : Tr RV) (m : Hp) (ρ : Rho) (w : World) (a : Act), St ρ m w x n t a →
    cSeq P n ops os call x t m = .bad ∨ ∃ ρ' x' t' m' a' w', cSeq P n ops os call x t m = .norm x' t' m' ∧
      (∀ (b : Frame) (k : List Item) (cs : List Frame), Steps P (lone (b.at a (.inRegion ops (List.range' j os.length) :: k)) cs w) (lone (b.at a' k) cs w')) ∧ Ext ρ m w ρ' m' w' ∧ St ρ' m' w' x' n t' a'
  | [], j, _, x, t, m, ρ, w, a, hs => .inr ⟨ρ, x, t, m, a, w, rfl, fun b k cs => .one step_region_end, .refl _ _ _, hs⟩
  | o :: os, j, hj, x, t, m, ρ, w, a, hs => by
    have ho : ops[j]? = some o := by
      have := congrArg (·[0]?) hj
      simpa using this
    have hj' : ops.toList.drop (j + 1) = os := by
      have := congrArg (List.drop 1) hj
      simpa [Nat.add_comm] using this
    have h1 := cOper_ok hcall ho hs.tr hs.sim
    show (cOper P n ops o call t m).go x (cSeq P n ops os call) = .bad ∨ _
    cases hr : cOper P n ops o call t m with
    | bad => exact .inl rfl
    | dfr d t' m' => rw [hr] at h1; exact h1.elim
    | ok t' m' =>
      rw [hr] at h1
      obtain ⟨ρ', v, w', hstep, he, hs', ht'⟩ := h1
      have hst : St ρ' m' w' x n t' (a.put o.dst v) := ⟨ht', hs', by rw [put_defers]; exact hs.ds.mono he.sub⟩
      rcases cSeq_ok hcall os (j + 1) hj' x t' m' ρ' w' _ hst with h2 | ⟨ρ₂, x₂, t₂, m₂, a₂, w₂, h2, h3, h4, h5⟩
      · exact .inl h2
      · refine .inr ⟨ρ₂, x₂, t₂, m₂, a₂, w₂, ?_, fun b k cs => ?_, he.trans h4, h5⟩
        · show (cOper P n ops o call t m).go x (cSeq P n ops os call) = _
          rw [hr]; exact h2
        · rw [List.length_cons, List.range'_succ]
          exact (hstep b k cs _).trans (h3 b k cs)
end
end Go.Ref
end
section
namespace Go.Ref
open Go
def OutR (n : Nat) (ρ : Rho) (m : Hp) (w : World) (out : Out) (e : Exit) (a : Act) (w' : World) : Prop :=
  match e, out with
  | .normal, .norm x t m' => ∃ ρ', Ext ρ m w ρ' m' w' ∧ St ρ' m' w' x n t a
  | .exit i, .exit j x t m' => i = j ∧ ∃ ρ', Ext ρ m w ρ' m' w' ∧ St ρ' m' w' x n t a
  | .ret, .ret x t m' => ∃ ρ', Ext ρ m w ρ' m' w' ∧ St ρ' m' w' x n t a
  | _, _ => False
theorem OutR.after {n : Nat} {ρ ρ₁ : Rho} {m m₁ : Hp} {w w₁ : World} {out : Out} {e : Exit} {a : Act} {w' : World} (h : Ext ρ m w ρ₁ m₁ w₁) (k : OutR n ρ₁ m₁ w₁ out e a w') : OutR n ρ m w out e a w' := by
  unfold OutR at *
  split at k
  · obtain ⟨ρ', h1, h2⟩ := k; exact ⟨ρ', h.trans h1, h2⟩
  · obtain ⟨he, ρ', h1, h2⟩ := k; exact ⟨he, ρ', h.trans h1, h2⟩
  · obtain ⟨ρ', h1, h2⟩ := k; exact ⟨ρ', h.trans h1, h2⟩
  · exact k.elim
def Goes (P : Program) (f : FuncId) (c : Code) (a : Act) (w : World) (e : Exit) (a' : Act) (w' : World) : Prop :=
  ∀ (b : Frame) (k : List Item) (cs : List Frame), b.fn = f → Arrives P (lone (b.at a (.code c :: k)) cs w) b k cs e a' w'
def CodeOk (P : Program) (f : FuncId) (n : Nat) (c : Code) (F : Aux → Tr RV → Hp → Out) : Prop :=
  ∀ x t m ρ w a, St ρ m w x n t a → F x t m = .bad ∨ ∃ e a' w', OutR n ρ m w (F x t m) e a' w' ∧ Goes P f c a w e a' w'
section
variable {P : Program} {n : Nat} {f : FuncId} {call : CallF}
theorem codeOk_norm {c : Code} {F : Aux → Tr RV → Hp → Out} (hF : ∀ x t m, F x t m = .norm x t m) (h : ∀ a w, Goes P f c a w .normal a w) : CodeOk P f n c F :=
  fun x t m ρ w a hs => .inr ⟨.normal, a, w, by rw [hF]; exact ⟨ρ, .refl _ _ _, hs⟩, h a w⟩
theorem codeOk_seq {c d : Code} {F G : Aux → Tr RV → Hp → Out} (hF : CodeOk P f n c F) (hG : CodeOk P f n d G) : CodeOk P f n (.seq c d) (fun x t m => (F x t m).then G) := by
  intro x t m ρ w a hs
  dsimp only
  rcases hF x t m ρ w a hs with h | ⟨e, a', w', h, hg⟩
  · exact .inl (by simp only [h]; rfl)
  · cases hr : F x t m with
    | bad => rw [hr] at h; cases e <;> exact h.elim
    | norm x1 t1 m1 =>
      rw [hr] at h
      cases e <;> try exact h.elim
      obtain ⟨ρ1, h1, h2⟩ := h
      rcases hG x1 t1 m1 ρ1 w' a' h2 with h3 | ⟨e2, a2, w2, h3, hg2⟩
      · exact .inl h3
      · refine .inr ⟨e2, a2, w2, h3.after h1, fun b k cs hb => ?_⟩
        exact .of_steps (.head step_seq (hg b (.code d :: k) cs hb)) (hg2 b k cs hb)
    | exit i x1 t1 m1 =>
      rw [hr] at h
      cases e <;> try exact h.elim
      exact .inr ⟨_, a', w', h, fun b k cs hb => .of_steps (.one step_seq) (.pass (x := .code d) rfl (fun _ _ => .inl (by simp)) (hg b (.code d :: k) cs hb))⟩
    | ret x1 t1 m1 =>
      rw [hr] at h
      cases e <;> try exact h.elim
      exact .inr ⟨_, a', w', h, fun b k cs hb => .of_steps (.one step_seq) (.pass (x := .code d) rfl (fun _ _ => .inl (by simp)) (hg b (.code d :: k) cs hb))⟩
theorem codeOk_cond {c : Operand} {x y : Code} {F G : Aux → Tr RV → Hp → Out} (hF : CodeOk P f n x F) (hG : CodeOk P f n y G) :
    CodeOk P f n (.cond c x y) (fun x t m => match cOpd c t with | .bool v => Bool.rec (motive := fun _ => Out) (G x t m) (F x t m) v | _ => .bad) := by
  intro x t m ρ w a hs
  dsimp only
  have hc := cOpd_VR hs.tr c
  cases hv : cOpd c t <;> try exact .inl rfl
  rename_i v
  rw [hv] at hc; simp only [VR] at hc
  simp only []
  have hc' : a.eval c = .bool v := by rw [eval_evT]; exact hc
  cases v with
  | true =>
    rcases hF x t m ρ w a hs with h | ⟨e, a', w', h, hg⟩
    · exact .inl h
    · exact .inr ⟨e, a', w', h, fun b k cs hb => .of_steps (.one (step_cond hc')) (hg b k cs hb)⟩
  | false =>
    rcases hG x t m ρ w a hs with h | ⟨e, a', w', h, hg⟩
    · exact .inl h
    · exact .inr ⟨e, a', w', h, fun b k cs hb => .of_steps (.one (step_cond hc')) (hg b k cs hb)⟩
theorem codeOk_block {id : Nat} {c : Code} {F : Aux → Tr RV → Hp → Out} (hF : CodeOk P f n c F) :
    CodeOk P f n (.block id c) (fun x t m => Out.rec (motive := fun _ => Out) .bad (fun x t m => .norm x t m) (fun i x t m => match Nat.beq i id with | true => .norm x t m | false => .exit i x t m) (fun x t m => .ret x t m) (F x t m)) := by
  intro x t m ρ w a hs
  dsimp only
  rcases hF x t m ρ w a hs with h | ⟨e, a', w', h, hg⟩
  · exact .inl (by simp only [h])
  · cases hr : F x t m with
    | bad => rw [hr] at h; cases e <;> exact h.elim
    | norm x1 t1 m1 =>
      rw [hr] at h
      cases e <;> try exact h.elim
      exact .inr ⟨.normal, a', w', h, fun b k cs hb => .head step_block (Steps.trans (hg b (.inBlock id :: k) cs hb) (.one step_inBlock))⟩
    | exit i x1 t1 m1 =>
      rw [hr] at h
      cases e <;> try exact h.elim
      rename_i j
      obtain ⟨rfl, h⟩ := h
      simp only []
      cases hi : Nat.beq j id with
      | true =>
        have hi := Nat.eq_of_beq_eq_true hi
        subst hi
        exact .inr ⟨.normal, a', w', h, fun b k cs hb => .head step_block (hg b (.inBlock j :: k) cs hb k (by simp [exitTo]))⟩
      | false =>
        have hi := Nat.ne_of_beq_eq_false hi
        refine .inr ⟨.exit j, a', w', ⟨rfl, h⟩, fun b k cs hb k' hk => .head step_block (hg b (.inBlock id :: k) cs hb k' ?_)⟩
        have : (id == j) = false := by simp; exact fun h => hi h.symm
        simp [exitTo, this, hk]
    | ret x1 t1 m1 =>
      rw [hr] at h
      cases e <;> try exact h.elim
      exact .inr ⟨.ret, a', w', h, fun b k cs hb => .of_steps (.one step_block) (hg b (.inBlock id :: k) cs hb)⟩
theorem codeOk_rounds {c : Code} {F : Aux → Tr RV → Hp → Out} (hF : CodeOk P f n c F) : ∀ (fuel : Nat) x t m ρ w a, St ρ m w x n t a →
    (Nat.rec (motive := fun _ => Aux → Tr RV → Hp → Out) (fun _ _ _ => .bad)
      (fun _ ih x t m => Out.rec (motive := fun _ => Out) .bad ih (fun id x t m => .exit id x t m) (fun x t m => .ret x t m) (F x t m)) fuel) x t m = .bad ∨
    ∃ e a' w', OutR n ρ m w ((Nat.rec (motive := fun _ => Aux → Tr RV → Hp → Out) (fun _ _ _ => .bad)
      (fun _ ih x t m => Out.rec (motive := fun _ => Out) .bad ih (fun id x t m => .exit id x t m) (fun x t m => .ret x t m) (F x t m)) fuel) x t m) e a' w' ∧
      ∀ (b : Frame) (k : List Item) (cs : List Frame), b.fn = f → Arrives P (lone (b.at a (.code c :: .inLoop c :: k)) cs w) b k cs e a' w' := by
  intro fuel
  induction fuel with
  | zero => intros; exact .inl rfl
  | succ fuel ih =>
    intro x t m ρ w a hs
    rcases hF x t m ρ w a hs with h | ⟨e, a', w', h, hg⟩
    · exact .inl (by simp only [h])
    · cases hr : F x t m with
      | bad => rw [hr] at h; cases e <;> exact h.elim
      | norm x1 t1 m1 =>
        rw [hr] at h
        cases e <;> try exact h.elim
        obtain ⟨ρ1, h1, h2⟩ := h
        rcases ih x1 t1 m1 ρ1 w' a' h2 with h3 | ⟨e2, a2, w2, h3, hg2⟩
        · exact .inl (by simp only [hr]; exact h3)
        · refine .inr ⟨e2, a2, w2, ?_, fun b k cs hb => ?_⟩
          · simp only [hr]; exact h3.after h1
          · exact .of_steps (Steps.trans (hg b (.inLoop c :: k) cs hb) (.one step_inLoop)) (hg2 b k cs hb)
      | exit i x1 t1 m1 =>
        rw [hr] at h
        cases e <;> try exact h.elim
        exact .inr ⟨_, a', w', by simp only [hr]; exact h, fun b k cs hb => .pass (x := .inLoop c) rfl (fun _ _ => .inl (by simp)) (hg b (.inLoop c :: k) cs hb)⟩
      | ret x1 t1 m1 =>
        rw [hr] at h
        cases e <;> try exact h.elim
        exact .inr ⟨_, a', w', by simp only [hr]; exact h, fun b k cs hb => .pass (x := .inLoop c) rfl (fun _ _ => .inl (by simp)) (hg b (.inLoop c :: k) cs hb)⟩
theorem codeOk_loop {c : Code} {F : CodeF} (hF : CodeOk P f n c (F call)) : CodeOk P f n (.loop c) (cLoop F call) := by
  intro x t m ρ w a hs
  rcases codeOk_rounds hF 1000000 x t m ρ w a hs with h | ⟨e, a', w', h, hg⟩
  · exact .inl h
  · exact .inr ⟨e, a', w', h, fun b k cs hb => .of_steps (.one step_loop) (hg b k cs hb)⟩
theorem codeOk_region {id : Nat} {ops : Array Oper} (hcall : CallOk P call) : CodeOk P f n (.region id ops false) (cSeq P n ops ops.toList call) := by
  intro x t m ρ w a hs
  rcases cSeq_ok (ops := ops) hcall ops.toList 0 rfl x t m ρ w a hs with h | ⟨ρ', x', t', m', a', w', h1, h2, h3, h4⟩
  · exact .inl h
  · refine .inr ⟨.normal, a', w', by rw [h1]; exact ⟨ρ', h3, h4⟩, fun b k cs hb => .head step_region ?_⟩
    have := h2 b k cs
    rw [Array.length_toList] at this
    rw [List.range_eq_range']
    exact this
end
end Go.Ref
end
