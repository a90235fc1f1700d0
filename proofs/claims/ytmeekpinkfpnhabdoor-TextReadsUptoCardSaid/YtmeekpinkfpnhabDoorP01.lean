/- The operations: each does to worlds what is said of it on pure values (1). -/
import Derived.WalkKit
import Derived.WalkSpells
import Derived.WalkLawsBesides
import Derived.Deep.AppendLies
import Derived.Deep.QuietTactic
import Derived.BigQuiet
import Derived.Test.YtmeekpinkfpnhabDoorProg
import Derived.Lib.LaidTab
import Derived.Lib.ItoaNum
set_option linter.all false
namespace Go.Proofs.YtmeekpinkfpnhabDoor
open Go.RowKit
abbrev Nm := Nat × Nat
inductive DV where
 | v (x : Value)
 | st (cs : List DV)
 | sl (xs : List DV)
 deriving Inhabited
def DV.cells : DV → List DV
 | .st cs => cs
 | .v x => [.v x]
 | .sl xs => [.sl xs]
@[go_sem] theorem DV.cells_v (x : Value) : (DV.v x).cells = [.v x] := rfl
@[go_sem] theorem DV.cells_sl (xs : List DV) : (DV.sl xs).cells = [.sl xs] := rfl
@[go_sem] theorem DV.cells_st (xs : List DV) : (DV.st xs).cells = xs := rfl
inductive AV where
 | junk
 | un
 | ifc
 | d (x : DV)
 | nil
 | nn (xs : List DV)
 | own (n : Nm) (xs : List DV)
 | gro (n : Nm) (len : Nat)
 | arr (n : Nm) (off len : Nat)
 | el (x : DV) (off : Nat)
 | ptr (n : Nm) (off : Nat)
 | map (n : Nm)
 | fn (f : Fn) (first caps : List AV)
 | tup (vs : List AV)
 | st (cs : List AV)
 deriving Inhabited
mutual
def AV.toD? : AV → Option DV
 | .d x => some x
 | .nil => some (.sl [])
 | .own _ xs => some (.sl xs)
 | .st cs => (allD cs).map .st
 | _ => none
def allD : List AV → Option (List DV)
 | [] => some []
 | a :: az => match a.toD?, allD az with
  | some x, some xs => some (x :: xs)
  | _, _ => none
end
def AV.toD (a : AV) : DV := (a.toD?).getD default
def AV.dat (a : AV) : AV := match a.toD? with | some x => .d x | none => a
def AV.cells : AV → List AV
 | .d x => x.cells.map .d
 | .st cs => cs
 | a => [a]
@[go_sem] theorem AV.cells_d (x : DV) : (AV.d x).cells = x.cells.map .d := rfl
@[go_sem] theorem AV.cells_st (cs : List AV) : (AV.st cs).cells = cs := rfl
@[go_sem] theorem AV.cells_nil : (AV.nil).cells = [.nil] := rfl
@[go_sem] theorem AV.cells_own (n : Nm) (xs : List DV) : (AV.own n xs).cells = [.own n xs] := rfl
@[go_sem] theorem AV.cells_gro (n : Nm) (a : Nat) : (AV.gro n a).cells = [.gro n a] := rfl
@[go_sem] theorem AV.cells_arr (n : Nm) (a b : Nat) : (AV.arr n a b).cells = [.arr n a b] := rfl
@[go_sem] theorem AV.cells_ptr (n : Nm) (a : Nat) : (AV.ptr n a).cells = [.ptr n a] := rfl
@[go_sem] theorem AV.cells_map (n : Nm) : (AV.map n).cells = [.map n] := rfl
@[go_sem] theorem AV.cells_fn (f : Fn) (a b : List AV) : (AV.fn f a b).cells = [.fn f a b] := rfl
@[go_sem] theorem AV.cells_el (x : DV) (a : Nat) : (AV.el x a).cells = [.el x a] := rfl
inductive Ob where
 | cells (e : TypeId) (cs : List AV)
 | perm (e : TypeId) (len : Nat)
 | map (es : List (Int × DV))
 | iter (src : Nm) (n : Nat) (seen : List Nat)
 | bag (es : List (Int × DV))
 | gro (e : TypeId) (len : Nat) (cs : List AV)
 | raw (b : Nat) (o : Obj)
 | loop (l : Nat) (st : LoopState) (fn : FuncId) (ps : Array Tmp) (assign body : Code) (d : Nat) (ts : List AV)
abbrev Heap := Nm → Option Ob
def upd (h : Heap) (n : Nm) (o : Option Ob) : Heap := fun m => if m = n then o else h m
def set (t : Nat → AV) (i : Nat) (a : AV) : Nat → AV := fun j => if j = i then a else t j
@[go_sem] theorem set_get (t : Nat → AV) (i j : Nat) (a : AV) : set t i a j = if j = i then a else t j := rfl
@[go_sem] theorem upd_get (h : Heap) (n m : Nm) (o : Option Ob) : upd h n o m = if m = n then o else h m := rfl
structure Eff where
 val : AV
 rd : List (Nm × Option Ob)
 wr : List (Nm × Option Ob)
abbrev pure' (a : AV) : Eff := ⟨a, [], []⟩
def Eff.ap (e : Eff) (h : Heap) : Heap := e.wr.foldl (fun h x => upd h x.1 x.2) h
structure St where
 t : Nat → AV
 h : Heap
 k : Nat
def constC : Value → AV
 | .slice none 0 0 => .nil
 | x => .d (.v x)
def constAV : Value → AV
 | .agg cs => .st (cs.toList.map constC)
 | x => constC x
def St.ev (s : St) : Operand → AV
 | .tmp i => s.t i
 | .const v => constAV v
 | .func f => .fn (.func f) [] []
 | .global _ => .junk
def szT (P : Program) (t : TypeId) : Nat := match P.info? t with | some i => i.size | none => 0
def bytesT (P : Program) (t : TypeId) : Nat := match P.info? t with | some i => i.bytes | none => 0
def hasT (P : Program) (t : TypeId) : Bool := (P.info? t).isSome && (P.underlying t).isSome
def aggT (P : Program) (t : TypeId) : Bool := match P.underlying t with | some (.struct _) | some (.array _ _) => true | _ => false
def elT (P : Program) (t : TypeId) : TypeId := match P.underlying t with | some (.slice e) => e | some (.array _ e) => e | _ => 0
def slT (P : Program) (t : TypeId) : Bool := match P.underlying t with | some (.slice _) => true | _ => false
def strT (P : Program) (t : TypeId) : Bool := match P.underlying t with | some .string => true | _ => false
def arT (P : Program) (t : TypeId) : Option Nat := match P.underlying t with | some (.array n _) => some n | _ => none
def fldT (P : Program) (t : TypeId) (f : Nat) : Option (Nat × TypeId) := match P.underlying t with | some (.struct fs) => (fs[f]?).map fun x => (x.offset, x.type) | _ => none
def zeroT (P : Program) (t : TypeId) : Option Value := match P.info? t with | some i => i.zero | none => none
def intOf' : AV → Int
 | .d (.v (.int _ n)) => n
 | _ => 0
def boolOf' : AV → Bool
 | .d (.v (.bool b)) => b
 | _ => false
def valOf : AV → Value
 | .d (.v x) => x
 | _ => undef
def isInt : AV → Bool
 | .d (.v (.int _ _)) => true
 | _ => false
def isI64 : AV → Bool
 | .d (.v (.int .i64 _)) => true
 | _ => false
def isBool : AV → Bool
 | .d (.v (.bool _)) => true
 | _ => false
def listOf : AV → List DV
 | .d (.sl xs) => xs
 | .own _ xs => xs
 | _ => []
def isList : AV → Bool
 | .d (.sl _) => true
 | .own _ _ => true
 | .nil => true
 | _ => false
def setR : List AV → Nat → List AV → List AV
 | cs, _, [] => cs
 | cs, off, x :: xs => setR (cs.set off x) (off + 1) xs
def objCells (h : Heap) (n : Nm) : List AV := match h n with | some (.cells _ cs) => cs | _ => []
def objTy (h : Heap) (n : Nm) : TypeId := match h n with | some (.cells e _) => e | _ => 0
def isCells (h : Heap) (n : Nm) : Prop := match h n with | some (.cells _ _) => True | _ => False
def effLoad (P : Program) (t : TypeId) (a : AV) (h : Heap) : Eff :=
 match a with
 | .el x off => pure' (if aggT P t then .d (.st ((x.cells.drop off).take (szT P t))) else .d (x.cells.getD off default))
 | .ptr n off => ⟨if aggT P t then .st (((objCells h n).drop off).take (szT P t)) else (objCells h n).getD off .junk, [(n, h n)], []⟩
 | _ => pure' .junk
def okLoad (P : Program) (t : TypeId) (a : AV) (h : Heap) : Prop :=
 match a with
 | .el x off => off + (if aggT P t then szT P t else 1) ≤ x.cells.length
 | .ptr n off => isCells h n ∧ off + (if aggT P t then szT P t else 1) ≤ (objCells h n).length
 | _ => False
def effStore (a x : AV) (h : Heap) : Eff :=
 match a with
 | .ptr n off => ⟨.junk, [(n, h n)], [(n, some (.cells (objTy h n) (setR (objCells h n) off x.cells)))]⟩
 | _ => pure' .junk
def stOK : AV → Prop
 | .junk => False
 | .ifc => False
 | .un => False
 | .nn _ => False
 | .tup _ => False
 | _ => True
def okStore (P : Program) (t : TypeId) (a x : AV) (h : Heap) : Prop :=
 match a with
 | .ptr n off => stOK x ∧ isCells h n ∧ off + x.cells.length ≤ (objCells h n).length ∧ x.cells.length = szT P t
 | _ => False
def addTo (a : AV) (n : Nat) : AV :=
 match a with
 | .el x off => .el x (off + n)
 | .ptr m off => .ptr m (off + n)
 | _ => .junk
def isPlace : AV → Bool
 | .el _ _ | .ptr _ _ => true
 | _ => false
def effIndexAddr (P : Program) (t : TypeId) (x ix : AV) : AV :=
 match x with
 | .arr n off _ => .ptr n (off + (intOf' ix).toNat * szT P (elT P t))
 | .el y off => .el y (off + (intOf' ix).toNat * szT P (elT P t))
 | .ptr n off => .ptr n (off + (intOf' ix).toNat * szT P (elT P t))
 | x => .el ((listOf x).getD (intOf' ix).toNat default) 0
def okIndexAddr (P : Program) (t : TypeId) (x ix : AV) : Prop :=
 isInt ix = true ∧ 0 ≤ intOf' ix ∧
 match x with
 | .arr _ _ len => slT P t = true ∧ intOf' ix < len
 | .el _ _ | .ptr _ _ => match arT P t with | some n => intOf' ix < n | none => False
 | x => slT P t = true ∧ isList x = true ∧ intOf' ix < (listOf x).length ∧ ((listOf x).getD (intOf' ix).toNat default).cells.length = szT P (elT P t)
def binV : BinOp → Value → Value → Value
 | .add, .int k a, .int _ b => .int k (a + b)
 | .sub, .int k a, .int _ b => .int k (a - b)
 | .mul, .int k a, .int _ b => .int k (a * b)
 | .quo, .int k a, .int _ b => .int k (a.tdiv b)
 | .rem, .int k a, .int _ b => .int k (a.tmod b)
 | .eql, .int _ a, .int _ b => .bool (a == b)
 | .neq, .int _ a, .int _ b => .bool (a != b)
 | .lss, .int _ a, .int _ b => .bool (decide (a < b))
 | .leq, .int _ a, .int _ b => .bool (decide (a ≤ b))
 | .gtr, .int _ a, .int _ b => .bool (decide (a > b))
 | .geq, .int _ a, .int _ b => .bool (decide (a ≥ b))
 | .add, .string a, .string b => .string (a ++ b)
 | .eql, .string a, .string b => .bool (a.toList == b.toList)
 | .neq, .string a, .string b => .bool (!(a.toList == b.toList))
 | .eql, .bool a, .bool b => .bool (a == b)
 | .neq, .bool a, .bool b => .bool (!(a == b))
 | _, _, _ => undef
def inK (k : IntKind) (x : Int) : Prop := match k with
 | .i64 => -9223372036854775808 ≤ x ∧ x ≤ 9223372036854775807
 | k => k.wrap x = x
def okBin (P : Program) (t : TypeId) : BinOp → Value → Value → Prop
 | .add, .int k a, .int k' b => k = k' ∧ inK k (a + b)
 | .sub, .int k a, .int k' b => k = k' ∧ inK k (a - b)
 | .mul, .int k a, .int k' b => k = k' ∧ inK k (a * b)
 | .quo, .int k a, .int k' b => k = k' ∧ b ≠ 0 ∧ inK k (a.tdiv b)
 | .rem, .int k _, .int k' b => k = k' ∧ b ≠ 0
 | .eql, .int k _, .int k' _ => k = k'
 | .neq, .int k _, .int k' _ => k = k'
 | .lss, .int k _, .int k' _ => k = k'
 | .leq, .int k _, .int k' _ => k = k'
 | .gtr, .int k _, .int k' _ => k = k'
 | .geq, .int k _, .int k' _ => k = k'
 | .add, .string a, .string b => a.size + b.size ≤ 1099511627776
 | .eql, .string _, .string _ => True
 | .neq, .string _, .string _ => True
 | .eql, .bool _, .bool _ => P.underlying t = some .bool
 | .neq, .bool _, .bool _ => P.underlying t = some .bool
 | _, _, _ => False
def unV : UnOp → Value → Value
 | .not, .bool b => .bool !b
 | .neg, .int k n => .int k (0 - n)
 | _, _ => undef
def okUn : UnOp → Value → Prop
 | .not, .bool _ => True
 | .neg, .int k n => inK k (0 - n)
 | _, _ => False
def isVal : AV → Bool
 | .d (.v _) => true
 | _ => false
def isNilA : AV → Option Bool
 | .nil => some true
 | .nn _ => some false
 | .d (.sl (_ :: _)) => some false
 | _ => none
def nilCmp (b : BinOp) (x y : AV) : Option Bool :=
 match y with
 | .nil => (match b with
  | .eql => isNilA x
  | .neq => (isNilA x).map (!·)
  | _ => none)
 | _ => none
def fillA (place : Nat → Option (Nat × Nat)) : List AV → List (Nat × AV) → List AV
 | cs, [] => cs
 | cs, (i, a) :: r => fillA place (setR cs ((place i).getD (0, 0)).1 a.cells) r
def okFill (place : Nat → Option (Nat × Nat)) (n : Nat) : List (Nat × AV) → Prop
 | [] => True
 | (i, a) :: r => (stOK a ∧ match place i with | some (off, size) => a.cells.length = size ∧ off + size ≤ n | none => False) ∧ okFill place n r
def placesL (P : Program) (t : TypeId) : Option (List (Nat × Nat)) :=
 match P.underlying t with
 | some (.struct fs) => fs.toList.mapM fun f => (P.info? f.type).map fun i => (f.offset, i.size)
 | _ => none
def placeT (P : Program) (t : TypeId) (i : Nat) : Option (Nat × Nat) :=
 match placesL P t with
 | some l => l[i]?
 | none => some (i * szT P (elT P t), szT P (elT P t))
def zeroOk (P : Program) (t : TypeId) : Bool := match zeroT P t with | some z => decide (z.cells.size = szT P t) && z.cells.all (·.oneCell') && (P.info? t).isSome | none => false
def zeroAV (P : Program) (t : TypeId) : List AV := match zeroT P t with | some z => (constAV z).cells | none => []
def effBuildSlice (P : Program) (nm : Nm) (t : TypeId) (len : Nat) (parts : List (Nat × AV)) : Eff :=
 ⟨.own nm (parts.map fun x => x.2.toD), [], [(nm, some (.perm (elT P t) len))]⟩
def okBuildSlice (P : Program) (t : TypeId) (len : Nat) (parts : List (Nat × AV)) : Prop :=
 slT P t = true ∧ parts.map (·.1) = List.range len ∧ (∀ x ∈ parts, x.2.toD?.isSome = true ∧ x.2.toD.cells.length = szT P (elT P t)) ∧ len * szT P (elT P t) ≤ 16777216 ∧ len ≤ 16777216 ∧ zeroOk P (elT P t) = true
def effSlice (nm : Nm) (x : AV) (lo hi : Option AV) (mx : Option AV) (P : Program) (t : TypeId) : Eff :=
 match x with
 | .d (.v (.string s)) => pure' (.d (.v (.string (s.extract ((lo.map intOf').getD 0).toNat ((hi.map intOf').getD s.size).toNat))))
 | .arr n off len => pure' (.arr n (off + ((lo.map intOf').getD 0).toNat * szT P (elT P t)) (((hi.map intOf').getD len).toNat - ((lo.map intOf').getD 0).toNat))
 | x => pure' (.d (.sl (((listOf x).take ((hi.map intOf').getD (listOf x).length).toNat).drop ((lo.map intOf').getD 0).toNat)))
def okSlice (P : Program) (t : TypeId) (x : AV) (lo hi mx : Option AV) : Prop :=
 (∀ a, lo = some a → isInt a = true) ∧ (∀ a, hi = some a → isInt a = true) ∧ (∀ a, mx = some a → isInt a = true ∧ ∃ b, hi = some b ∧ intOf' a = intOf' b) ∧
 0 ≤ (lo.map intOf').getD 0 ∧
 match x with
 | .d (.v (.string s)) => strT P t = true ∧ mx = none ∧ (lo.map intOf').getD 0 ≤ (hi.map intOf').getD s.size ∧ (hi.map intOf').getD s.size ≤ s.size
 | .arr _ _ len => slT P t = true ∧ mx = none ∧ (lo.map intOf').getD 0 ≤ (hi.map intOf').getD len ∧ (hi.map intOf').getD len ≤ len
 | x => slT P t = true ∧ isList x = true ∧ (lo.map intOf').getD 0 ≤ (hi.map intOf').getD (listOf x).length ∧ (hi.map intOf').getD (listOf x).length ≤ (listOf x).length ∧
   (∀ y ∈ listOf x, y.cells.length = szT P (elT P t))
def newsOf (h : Heap) : AV → List DV
 | .arr n off len => (((objCells h n).drop off).take len).map AV.toD
 | x => listOf x
def srcRd (h : Heap) : AV → List (Nm × Option Ob)
 | .arr m _ _ => [(m, h m)]
 | _ => []
def groCs (h : Heap) (n : Nm) : List AV := match h n with | some (.gro _ _ cs) => cs | _ => []
def flatD (ys : List DV) : List AV := (ys.flatMap DV.cells).map .d
def effAppend (P : Program) (nm : Nm) (t : TypeId) (s x : AV) (h : Heap) : Eff :=
 match s with
 | .own n xs => ⟨.own n (xs ++ newsOf h x), (n, some (.perm (elT P t) xs.length)) :: srcRd h x, [(n, some (.perm (elT P t) (xs ++ newsOf h x).length))]⟩
 | .gro n len => ⟨.gro n (len + (newsOf h x).length), (n, h n) :: srcRd h x, [(n, some (.gro (elT P t) (len + (newsOf h x).length) (groCs h n ++ flatD (newsOf h x))))]⟩
 | _ => ⟨.own nm (newsOf h x), srcRd h x, [(nm, some (.perm (elT P t) (newsOf h x).length))]⟩
def okSrc (sz : Nat) (h : Heap) : AV → Prop
 | .arr n off len => isCells h n ∧ sz = 1 ∧ off + len ≤ (objCells h n).length ∧ ∀ a ∈ ((objCells h n).drop off).take len, a.toD?.isSome = true ∧ a.toD.cells.length = 1
 | x => isList x = true ∧ ∀ y ∈ listOf x, y.cells.length = sz
def okDest (P : Program) (e : TypeId) (h : Heap) (n : Nat) : AV → Prop
 | .own nm xs => h nm = some (.perm e xs.length) ∧ (∀ y ∈ xs, y.cells.length = szT P e) ∧ xs.length + n ≤ 16777216
 | .nil => n ≤ 16777216
 | .gro nm len => (match h nm with | some (.gro e' len' cs) => e' = e ∧ len' = len ∧ cs.length = len * szT P e | _ => False) ∧ len + n ≤ 16777216
 | _ => False
def okAppend (P : Program) (t t' : TypeId) (s x : AV) (h : Heap) : Prop :=
 slT P t = true ∧ t = t' ∧ 0 < szT P (elT P t) ∧ bytesT P (elT P t) ≤ 1024 ∧ zeroOk P (elT P t) = true ∧
 okSrc (szT P (elT P t)) h x ∧
 okDest P (elT P t) h (newsOf h x).length s
def effMakeSlice (P : Program) (nm : Nm) (t : TypeId) (len : AV) : Eff :=
 ⟨.arr nm 0 (intOf' len).toNat, [], [(nm, some (.cells (elT P t) (List.replicate (intOf' len).toNat (zeroAV P (elT P t))).flatten))]⟩
def okMakeSlice (P : Program) (t : TypeId) (len cap : AV) : Prop :=
 slT P t = true ∧ isInt len = true ∧ isInt cap = true ∧ intOf' cap = intOf' len ∧ 0 ≤ intOf' len ∧ intOf' len ≤ 16777216 ∧ bytesT P (elT P t) ≤ 1024 ∧ 0 < szT P (elT P t) ∧ zeroOk P (elT P t) = true
def lenA : AV → Option Nat
 | .arr _ _ len => some len
 | .d (.v (.string s)) => some s.size
 | .d (.sl xs) => some xs.length
 | .own _ xs => some xs.length
 | .gro _ len => some len
 | .nil => some 0
 | _ => none
def okLen (P : Program) (t : TypeId) : AV → Prop
 | .d (.v (.string _)) => strT P t = true
 | x => slT P t = true ∧ (lenA x).isSome = true
def effBuiltin (P : Program) (nm : Nm) (h : Heap) (b : Builtin) (ts : List TypeId) (args : List AV) : Eff :=
 match b, args, ts with
 | .len, [x], _ => pure' (.d (.v (.int .i64 ((lenA x).getD 0))))
 | .append, [s, x], t :: _ => effAppend P nm t s x h
 | .min, [x, y], _ => pure' (.d (.v (.int .i64 (if intOf' y < intOf' x then intOf' y else intOf' x))))
 | .max, [x, y], _ => pure' (.d (.v (.int .i64 (if intOf' y > intOf' x then intOf' y else intOf' x))))
 | _, _, _ => pure' .junk
def okBuiltin (P : Program) (h : Heap) (b : Builtin) (ts : List TypeId) (args : List AV) : Prop :=
 match b, args, ts with
 | .len, [x], t :: _ => okLen P t x
 | .append, [s, x], [t, t'] => okAppend P t t' s x h
 | .min, [x, y], _ => isI64 x = true ∧ isI64 y = true
 | .max, [x, y], _ => isI64 x = true ∧ isI64 y = true
 | _, _, _ => False
def mapT (P : Program) (t : TypeId) : Option TypeId := match P.underlying t with
 | some (.map k e) => (match P.underlying k with | some (.int .i64) => some e | _ => none)
 | _ => none
def getM (k : Int) : List (Int × DV) → Option DV
 | [] => none
 | p :: m => if k = p.1 then some p.2 else getM k m
def putM (k : Int) (x : DV) : List (Int × DV) → List (Int × DV)
 | [] => [(k, x)]
 | p :: m => if k = p.1 then (k, x) :: m else p :: putM k x m
def mapEs (h : Heap) (n : Nm) : List (Int × DV) := match h n with | some (.map es) => es | _ => []
def isMapO (h : Heap) (n : Nm) : Prop := match h n with | some (.map _) => True | _ => False
def zeroD (P : Program) (t : TypeId) : AV := match zeroT P t with | some z => constAV z | none => .junk
def effPut (a k x : AV) (h : Heap) : Eff :=
 match a with
 | .map n => ⟨.junk, [(n, h n)], [(n, some (.map (putM (intOf' k) x.toD (mapEs h n))))]⟩
 | _ => pure' .junk
def okPut (P : Program) (t : TypeId) (a k x : AV) (h : Heap) : Prop :=
 (mapT P t).isSome = true ∧ isI64 k = true ∧ x.toD?.isSome = true ∧ match a with | .map n => isMapO h n | _ => False
def askM (a k : AV) (h : Heap) : Option DV :=
 match a with
 | .map n => getM (intOf' k) (mapEs h n)
 | _ => none
def effLook (P : Program) (t : TypeId) (a k : AV) (c : Bool) (h : Heap) : Eff :=
 let v := AV.d ((askM a k h).getD (zeroD P ((mapT P t).getD 0)).toD)
 ⟨if c then .tup [v, .d (.v (.bool (askM a k h).isSome))] else v, match a with | .map n => [(n, h n)] | _ => [], []⟩
def isNilM : AV → Prop
 | .d (.v (.map none)) => True
 | _ => False
def okLook (P : Program) (t : TypeId) (a k : AV) (h : Heap) : Prop :=
 (mapT P t).isSome = true ∧ isI64 k = true ∧ zeroOk P ((mapT P t).getD 0) = true ∧ (zeroD P ((mapT P t).getD 0)).toD?.isSome = true ∧ match a with | .map n => isMapO h n | a => isNilM a
def effRange (nm : Nm) (a : AV) (h : Heap) : Eff :=
 match a with
 | .map n => ⟨.ptr nm 0, [(n, h n)], [(nm, some (.iter n (mapEs h n).length []))]⟩
 | _ => pure' .junk
def okRange (P : Program) (t : TypeId) (a : AV) (h : Heap) : Prop := (mapT P t).isSome = true ∧ match a with | .map n => isMapO h n | _ => False
def effEntry (a : AV) (h : Heap) : Eff :=
 match a with
 | .ptr nm 0 => (match h nm with
  | some (.iter src _ seen) => ⟨.tup [.d (.v (.int .i64 ((mapEs h src).getD (seen.getLast?.getD 0) default).1)), .d ((mapEs h src).getD (seen.getLast?.getD 0) default).2], [(nm, h nm), (src, h src)], []⟩
  | _ => ⟨.junk, [(nm, h nm)], []⟩)
 | _ => pure' .junk
def okEntry (a : AV) (h : Heap) : Prop :=
 match a with
 | .ptr nm 0 => (match h nm with
  | some (.iter src n seen) => isMapO h src ∧ (mapEs h src).length = n ∧ ∃ i, seen.getLast? = some i ∧ i < n
  | _ => False)
 | _ => False
def byteAt (s : ByteArray) (i : Nat) : Int := match s[i]? with | some b => b.toNat | none => 0
def byteOf : DV → UInt8
 | .v (.int .u8 n) => UInt8.ofNat n.toNat
 | _ => 0
def isByte : DV → Bool
 | .v (.int .u8 n) => decide (0 ≤ n) && decide (n < 256)
 | _ => false
def convA (P : Program) (d : TypeId) : AV → AV
 | .d (.v (.int _ n)) => .d (.v (.int (P.intKind d) ((P.intKind d).wrap n)))
 | x => .d (.v (.string ⟨((listOf x).map byteOf).toArray⟩))
def okConv (P : Program) (s d : TypeId) : AV → Prop
 | .d (.v (.int _ _)) => (P.underlying s).isSome = true ∧ P.underlying d = some (.int (P.intKind d))
 | x => isList x = true ∧ slT P s = true ∧ P.underlying (elT P s) = some (.int .u8) ∧ P.underlying d = some .string ∧ listOf x ≠ [] ∧ ∀ y ∈ listOf x, isByte y = true
def isNilI : AV → Option Bool
 | .d (.v .nilIface) => some true
 | .d (.v (.iface _ _)) => some false
 | .ifc => some false
 | _ => none
def nilI (b : BinOp) (y : Operand) (x : AV) : Option Bool :=
 match y with
 | .const .nilIface => (match b with
  | .eql => isNilI x
  | .neq => (isNilI x).map (!·)
  | _ => none)
 | _ => none
def effOf (P : Program) (nm : Nm) (op : Op) (r : Operand → AV) (h : Heap) : Eff :=
 match op with
 | .move x => pure' (r x)
 | .assign x => pure' (r x)
 | .pick c a b => pure' (if boolOf' (r c) then r a else r b)
 | .alloc e => ⟨.ptr nm 0, [], [(nm, some (.cells e (zeroAV P e)))]⟩
 | .box e x => ⟨.ptr nm 0, [], [(nm, some (.cells e (r x).cells))]⟩
 | .build t ps => pure' (.st (fillA (placeT P t) (zeroAV P t) (ps.toList.map fun x => (x.1, r x.2))))
 | .buildSlice t len ps => effBuildSlice P nm t len (ps.toList.map fun x => (x.1, r x.2))
 | .load t a => effLoad P t (r a) h
 | .store _ a x => effStore (r a) (r x) h
 | .nilCheck x => pure' (r x)
 | .binOp b _ x y _ => pure' (.d (.v (match nilI b y (r x) with | some c => .bool c | none => match nilCmp b (r x) (r y) with | some c => .bool c | none => binV b (valOf (r x)) (valOf (r y)))))
 | .convert _ d x => pure' (convA P d (r x))
 | .unOp u _ x => pure' (.d (.v (unV u (valOf (r x)))))
 | .fieldAddr s x f => pure' (addTo (r x) ((fldT P s f).getD (0, 0)).1)
 | .field s x f => pure' (let fl := (fldT P s f).getD (0, 0); if aggT P fl.2 then .st (((r x).cells.drop fl.1).take (szT P fl.2)) else (r x).cells.getD fl.1 .junk)
 | .indexAddr t x i => pure' (effIndexAddr P t (r x) (r i))
 | .index _ x i => pure' (match r x with | .d (.v (.string s)) => .d (.v (.int .u8 (byteAt s (intOf' (r i)).toNat))) | _ => .junk)
 | .slice t x lo hi mx => effSlice nm (r x) (lo.map r) (hi.map r) (mx.map r) P t
 | .makeFunc f first caps => pure' (.fn f (first.toList.map r) (caps.toList.map r))
 | .makeSlice t len _ => effMakeSlice P nm t (r len)
 | .extract x i => pure' (match r x with | .tup vs => vs.getD i .junk | _ => .junk)
 | .makeMap _ none => ⟨.map nm, [], [(nm, some (.map []))]⟩
 | .range _ x => effRange nm (r x) h
 | .entry x => effEntry (r x) h
 | .mapUpdate _ a k x => effPut (r a) (r k) (r x) h
 | .insert _ a k x => effPut (r a) (r k) (r x) h
 | .lookup t a k c => effLook P t (r a) (r k) c h
 | .call { callee := .builtin b, args, argTypes } => effBuiltin P nm h b argTypes.toList (args.toList.map r)
 | _ => pure' .junk
def isStruct : AV → Prop
 | .st _ => True
 | .d (.st _) => True
 | _ => False
def okOf (P : Program) (op : Op) (r : Operand → AV) (h : Heap) : Prop :=
 match op with
 | .move _ => True
 | .assign _ => True
 | .pick c _ _ => isBool (r c) = true
 | .alloc e => zeroOk P e = true
 | .box _ x => stOK (r x)
 | .build t ps => zeroOk P t = true ∧ ((placesL P t).isSome = true ∨ (arT P t).isSome = true ∧ (P.info? (elT P t)).isSome = true) ∧ okFill (placeT P t) (zeroAV P t).length (ps.toList.map fun x => (x.1, r x.2))
 | .buildSlice t len ps => okBuildSlice P t len (ps.toList.map fun x => (x.1, r x.2))
 | .load t a => hasT P t = true ∧ okLoad P t (r a) h
 | .store t a x => hasT P t = true ∧ okStore P t (r a) (r x) h
 | .nilCheck x => isPlace (r x) = true
 | .binOp b t x y _ => match nilI b y (r x) with | some _ => P.underlying t = some (.interface (P.methodsAt t)) | none => match nilCmp b (r x) (r y) with | some _ => slT P t = true | none => isVal (r x) = true ∧ isVal (r y) = true ∧ okBin P t b (valOf (r x)) (valOf (r y))
 | .convert s d x => okConv P s d (r x)
 | .unOp u _ x => isVal (r x) = true ∧ okUn u (valOf (r x))
 | .fieldAddr s x f => isPlace (r x) = true ∧ ∃ fl, fldT P s f = some fl ∧ 0 < szT P fl.2 ∧ hasT P fl.2 = true
 | .field s x f => ∃ fl, fldT P s f = some fl ∧ hasT P fl.2 = true ∧ fl.1 + (if aggT P fl.2 then szT P fl.2 else 1) ≤ (r x).cells.length ∧ isStruct (r x)
 | .indexAddr t x i => okIndexAddr P t (r x) (r i) ∧ hasT P t = true ∧ hasT P (elT P t) = true
 | .index t x i => strT P t = true ∧ isInt (r i) = true ∧ (match r x with | .d (.v (.string s)) => 0 ≤ intOf' (r i) ∧ intOf' (r i) < s.size | _ => False)
 | .slice t x lo hi mx => okSlice P t (r x) (lo.map r) (hi.map r) (mx.map r) ∧ hasT P t = true ∧ hasT P (elT P t) = true
 | .makeFunc _ _ _ => True
 | .makeSlice t len cap => okMakeSlice P t (r len) (r cap)
 | .extract x i => match r x with | .tup vs => i < vs.length | _ => False
 | .makeMap _ none => True
 | .range t x => okRange P t (r x) h
 | .entry x => okEntry (r x) h
 | .mapUpdate t a k x => okPut P t (r a) (r k) (r x) h
 | .insert t a k x => okPut P t (r a) (r k) (r x) h
 | .lookup t a k _ => okLook P t (r a) (r k) h
 | .call { callee := .builtin b, args, argTypes } => okBuiltin P h b argTypes.toList (args.toList.map r)
 | _ => False
end Go.Proofs.YtmeekpinkfpnhabDoor
namespace Go.Proofs.YtmeekpinkfpnhabDoor
open Go
def GOK (w : World) : Prop := Lib.TabIs Tryd.prog w "internal/strconv.uint64pow10" .u64 Lib.pow10Tab ∧ (∃ tp p, w.var? Tryd.prog "strconv.ErrSyntax" = some #[.iface tp p]) ∧ ∃ tp p, w.var? Tryd.prog "strconv.ErrRange" = some #[.iface tp p]
structure GW extends World where
 ok : GOK toWorld
instance : Coe GW World := ⟨GW.toWorld⟩
end Go.Proofs.YtmeekpinkfpnhabDoor
namespace Go.Proofs.YtmeekpinkfpnhabDoor
open Go.RowKit
abbrev Mem := Nat → Nat → Option Value
structure Bk where
 b : Nat
 cap : Nat
 ver : Option Nat
def Bk.le (p p' : Bk) : Prop := p' = p ∨ ∃ v v', p.ver = some v ∧ p'.ver = some v' ∧ v < v'
theorem Bk.le.rfl' (p : Bk) : p.le p := .inl rfl
theorem Bk.le.trans {p q r : Bk} (h : p.le q) (k : q.le r) : p.le r := by
 rcases h with rfl | ⟨v, v', h1, h2, h3⟩
 ·exact k
 ·rcases k with rfl | ⟨u, u', k1, k2, k3⟩
  ·exact .inr ⟨v, v', h1, h2, h3⟩
  ·rw [h2] at k1; cases k1; exact .inr ⟨v, u', h1, k2, by omega⟩
theorem Bk.le.hard {p p' : Bk} (h : p.le p') (hv : p.ver = none) : p' = p := by
 rcases h with rfl | ⟨v, v', h1, _⟩
 ·rfl
 ·rw [hv] at h1; cases h1
abbrev Bl := Nm → Option Bk
def Mem.le (m m' : Mem) : Prop := ∀ b o v, m b o = some v → m' b o = some v
def Bl.le (b b' : Bl) : Prop := ∀ n p, b n = some p → ∃ p', b' n = some p' ∧ p.le p'
theorem Mem.le.rfl' (m : Mem) : m.le m := fun _ _ _ h => h
theorem Bl.le.rfl' (b : Bl) : b.le b := fun _ p h => ⟨p, h, .rfl' p⟩
theorem Bl.le.hard {b b' : Bl} (h : b.le b') {n : Nm} {p : Bk} (hn : b n = some p) (hv : p.ver = none) : b' n = some p := by
 obtain ⟨p', h1, h2⟩ := h n p hn
 rw [h1, h2.hard hv]
theorem Bl.le.some {b b' : Bl} (h : b.le b') {n : Nm} {p : Bk} (hn : b n = some p) : ∃ p', b' n = some p' := let ⟨p', h1, _⟩ := h n p hn; ⟨p', h1⟩
theorem Mem.le.trans {a b c : Mem} (h : a.le b) (k : b.le c) : a.le c := fun x o v e => k x o v (h x o v e)
theorem Bl.le.trans {a b c : Bl} (h : a.le b) (k : b.le c) : a.le c := fun x p e => let ⟨q, h1, h2⟩ := h x p e; let ⟨r, k1, k2⟩ := k x q h1; ⟨r, k1, h2.trans k2⟩
inductive RD (m : Mem) : Value → DV → Prop
 | v {x : Value} (h : x.oneCell' = true) : RD m x (.v x)
 | st {cs : Array Value} {ds : List DV} (hl : cs.size = ds.length) (h1 : ∀ (i : Nat) (c : Value), cs[i]? = some c → c.oneCell' = true) (hc : ∀ (i : Nat) (c : Value) (d : DV), cs[i]? = some c → ds[i]? = some d → RD m c d) : RD m (.agg cs) (.st ds)
 | nil {a : Option Addr} : RD m (.slice a 0 0) (.sl [])
 | sl {b o n cap sz : Nat} {xs : List DV} (hn : n = xs.length) (hcap : n ≤ cap) (hmax : cap ≤ maxLen) (hsz : ∀ x ∈ xs, x.cells.length = sz)
   (hs : ∀ (i j : Nat) (x d : DV), xs[i]? = some x → x.cells[j]? = some d → ∃ c, m b (o + i * sz + j) = some c)
   (hc : ∀ (i j : Nat) (x d : DV) (c : Value), xs[i]? = some x → x.cells[j]? = some d → m b (o + i * sz + j) = some c → RD m c d) : RD m (.slice (some ⟨b, o, none⟩) n cap) (.sl xs)
theorem RD.mono {m m' : Mem} {x : Value} {d : DV} (h : RD m x d) (hm : m.le m') : RD m' x d := by
 induction h with
 | v h => exact .v h
 | st hl h1 _ ih => exact .st hl h1 ih
 | nil => exact .nil
 | sl hn hcap hmax hsz hs _ ih =>
  refine .sl hn hcap hmax hsz (fun i j x d h1 h2 => let ⟨c, hc⟩ := hs i j x d h1 h2; ⟨c, hm _ _ _ hc⟩) fun i j x d c h1 h2 h3 => ?_
  obtain ⟨c', hc'⟩ := hs i j x d h1 h2
  have := hm _ _ _ hc'
  rw [h3] at this
  cases this
  exact ih i j x d c h1 h2 hc'
theorem RD.cell {m : Mem} {b o n cap sz : Nat} {xs : List DV} (hsz : ∀ x ∈ xs, x.cells.length = sz) (h : RD m (.slice (some ⟨b, o, none⟩) n cap) (.sl xs)) {i j : Nat} {x d : DV} (h1 : xs[i]? = some x) (h2 : x.cells[j]? = some d) : ∃ c, m b (o + i * sz + j) = some c ∧ RD m c d := by
 cases h with
 | nil => simp at h1
 | sl hn hcap hmax hsz' hs hc =>
  have e : sz = _ := (hsz x (List.mem_of_getElem? h1)).symm.trans (hsz' x (List.mem_of_getElem? h1))
  subst e
  obtain ⟨c, h3⟩ := hs i j x d h1 h2
  exact ⟨c, h3, hc i j x d c h1 h2 h3⟩
inductive R (m : Mem) (β : Bl) : Value → AV → Prop
 | junk {x : Value} : R m β x .junk
 | un : R m β undef .un
 | ifc {u : TypeId} {q : Value} : R m β (.iface u q) .ifc
 | d {x : Value} {y : DV} (h : RD m x y) : R m β x (.d y)
 | nil : R m β (.slice none 0 0) .nil
 | nn {a : Addr} {n cap : Nat} {xs : List DV} (hr : RD m (.slice (some a) n cap) (.sl xs)) : R m β (.slice (some a) n cap) (.nn xs)
 | own {x : Value} {n : Nm} {xs : List DV} {p : Bk} {v : Nat} (hr : RD m x (.sl xs)) (hb : β n = some p) (hv : p.ver = some v) (hl : xs.length ≤ v) (ha : xs.length = v → ∃ a, x = .slice a xs.length p.2 ∧ ((xs.length = 0 ∧ p.2 = 0) ∨ a = some ⟨p.1, 0, none⟩)) : R m β x (.own n xs)
 | gro {x : Value} {n : Nm} {len : Nat} {p : Bk} {v : Nat} (hx : ∃ a c, x = .slice a len c) (hb : β n = some p) (hv : p.ver = some v) (hl : len ≤ v) (ha : len = v → ∃ a, x = .slice a len p.2 ∧ ((len = 0 ∧ p.2 = 0) ∨ a = some ⟨p.1, 0, none⟩)) : R m β x (.gro n len)
 | arr {n : Nm} {off len cap o : Nat} {p : Bk} (hb : β n = some p) (hv : p.ver = none) (hc : len ≤ cap) (hm : cap ≤ maxLen) (ho : len = 0 ∨ o = off) : R m β (.slice (some ⟨p.1, o, none⟩) len cap) (.arr n off len)
 | el {b o : Nat} {y : DV} {off : Nat} (hc : ∀ (j : Nat) (d : DV), y.cells[j]? = some d → ∃ c, m b (o + j) = some c ∧ RD m c d) : R m β (.pointer (some ⟨b, o + off, none⟩)) (.el y off)
 | ptr {n : Nm} {off : Nat} {p : Bk} (hb : β n = some p) (hv : p.ver = none) : R m β (.pointer (some ⟨p.1, off, none⟩)) (.ptr n off)
 | map {n : Nm} {p : Bk} (hb : β n = some p) (hv : p.ver = none) : R m β (.map (some p.1)) (.map n)
 | fn {f : Fn} {fs cs : Array Value} {az bs : List AV} (h1 : fs.size = az.length) (h2 : cs.size = bs.length) (hf : ∀ (i : Nat) (v : Value) (a : AV), fs[i]? = some v → az[i]? = some a → R m β v a)
   (hc : ∀ (i : Nat) (v : Value) (a : AV), cs[i]? = some v → bs[i]? = some a → R m β v a) : R m β (.func f fs cs) (.fn f az bs)
 | tup {vs : Array Value} {az : List AV} (hl : vs.size = az.length) (h : ∀ (i : Nat) (v : Value) (a : AV), vs[i]? = some v → az[i]? = some a → R m β v a) : R m β (.tuple vs) (.tup az)
 | st {cs : Array Value} {az : List AV} (hl : cs.size = az.length) (h1 : ∀ (i : Nat) (c : Value), cs[i]? = some c → c.oneCell' = true) (h : ∀ (i : Nat) (v : Value) (a : AV), cs[i]? = some v → az[i]? = some a → R m β v a) : R m β (.agg cs) (.st az)
theorem R.mono {m m' : Mem} {β β' : Bl} {x : Value} {a : AV} (h : R m β x a) (hm : m.le m') (hb : β.le β') : R m' β' x a := by
 induction h with
 | junk => exact .junk
 | un => exact .un
 | ifc => exact .ifc
 | d h => exact .d (h.mono hm)
 | nil => exact .nil
 | nn h => exact .nn (h.mono hm)
 | own hr hn hv hl ha =>
  obtain ⟨p', h1, h2⟩ := hb _ _ hn
  rcases h2 with rfl | ⟨v, v', h2, h3, h4⟩
  ·exact .own (hr.mono hm) h1 hv hl ha
  ·rw [hv] at h2; cases h2
   exact .own (hr.mono hm) h1 h3 (by omega) (fun e => by omega)
 | gro hx hn hv hl ha =>
  obtain ⟨p', h1, h2⟩ := hb _ _ hn
  rcases h2 with rfl | ⟨v, v', h2, h3, h4⟩
  ·exact .gro hx h1 hv hl ha
  ·rw [hv] at h2; cases h2
   exact .gro hx h1 h3 (by omega) (fun e => by omega)
 | arr hn hv hc hmx ho => exact .arr (hb.hard hn hv) hv hc hmx ho
 | el hc => exact .el fun j d h => let ⟨c, h1, h2⟩ := hc j d h; ⟨c, hm _ _ _ h1, h2.mono hm⟩
 | ptr hn hv => exact .ptr (hb.hard hn hv) hv
 | map hn hv => exact .map (hb.hard hn hv) hv
 | fn h1 h2 _ _ ih1 ih2 => exact .fn h1 h2 ih1 ih2
 | tup hl _ ih => exact .tup hl ih
 | st hl h1 _ ih => exact .st hl h1 ih
mutual
def AV.names : AV → List Nm
 | .own n _ => [n]
 | .gro n _ => [n]
 | .arr n _ _ => [n]
 | .ptr n _ => [n]
 | .map n => [n]
 | .fn _ az bs => namesL az ++ namesL bs
 | .tup az => namesL az
 | .st az => namesL az
 | _ => []
def namesL : List AV → List Nm
 | [] => []
 | a :: az => a.names ++ namesL az
end
theorem names_mem {az : List AV} {i : Nat} {a : AV} (h : az[i]? = some a) {n : Nm} (hn : n ∈ a.names) : n ∈ namesL az := by
 induction az generalizing i with
 | nil => simp at h
 | cons x xs ih =>
  rw [namesL, List.mem_append]
  cases i with
  | zero => simp at h; subst h; exact .inl hn
  | succ i => exact .inr (ih (by simpa using h))
theorem R.names {m : Mem} {β β' : Bl} {x : Value} {a : AV} (h : R m β x a) (hb : ∀ n ∈ a.names, β' n = β n) : R m β' x a := by
 induction h with
 | junk => exact .junk
 | un => exact .un
 | ifc => exact .ifc
 | d h => exact .d h
 | nil => exact .nil
 | nn h => exact .nn h
 | own hr hn hv hl ha => exact .own hr ((hb _ (by simp [AV.names])).trans hn) hv hl ha
 | gro hx hn hv hl ha => exact .gro hx ((hb _ (by simp [AV.names])).trans hn) hv hl ha
 | arr hn hv hc hmx ho => exact .arr ((hb _ (by simp [AV.names])).trans hn) hv hc hmx ho
 | el hc => exact .el hc
 | ptr hn hv => exact .ptr ((hb _ (by simp [AV.names])).trans hn) hv
 | map hn hv => exact .map ((hb _ (by simp [AV.names])).trans hn) hv
 | fn h1 h2 _ _ ih1 ih2 =>
  exact .fn h1 h2 (fun i v a h1 h2 => ih1 i v a h1 h2 fun n hn => hb n (by simp [AV.names, names_mem h2 hn])) (fun i v a h1 h2 => ih2 i v a h1 h2 fun n hn => hb n (by simp [AV.names, names_mem h2 hn]))
 | tup hl _ ih => exact .tup hl fun i v a h1 h2 => ih i v a h1 h2 fun n hn => hb n (by simp [AV.names, names_mem h2 hn])
 | st hl h1 _ ih => exact .st hl h1 fun i v a h1 h2 => ih i v a h1 h2 fun n hn => hb n (by simp [AV.names, names_mem h2 hn])
theorem mem_names {az : List AV} {n : Nm} (hn : n ∈ namesL az) : ∃ (i : Nat) (a : AV), az[i]? = some a ∧ n ∈ a.names := by
 induction az with
 | nil => simp [namesL] at hn
 | cons x xs ih =>
  rw [namesL, List.mem_append] at hn
  rcases hn with hn | hn
  ·exact ⟨0, x, rfl, hn⟩
  ·obtain ⟨i, a, h1, h2⟩ := ih hn; exact ⟨i + 1, a, by simpa using h1, h2⟩
theorem known_key {β : Bl} {vs : Array Value} {az : List AV} (hl : vs.size = az.length) (ih : ∀ (i : Nat) (v : Value) (a : AV), vs[i]? = some v → az[i]? = some a → ∀ n ∈ a.names, ∃ p, β n = some p) {n : Nm} (hn : n ∈ namesL az) : ∃ p, β n = some p := by
 obtain ⟨i, a, hi, ha⟩ := mem_names hn
 have hlt : i < az.length := (List.getElem?_eq_some_iff.1 hi).1
 exact ih i vs[i] a (Array.getElem?_eq_getElem (by omega)) hi n ha
theorem R.known {m : Mem} {β : Bl} {x : Value} {a : AV} (h : R m β x a) : ∀ n ∈ a.names, ∃ p, β n = some p := by
 induction h with
 | junk | un | d _ | nil | nn _ | el _ => intro n hn; simp [AV.names] at hn
 | ifc => intro n hn; simp [AV.names] at hn
 | own _ hb _ _ _ | gro _ hb _ _ _ | arr hb _ _ _ _ | ptr hb _ | map hb _ => intro n hn; simp [AV.names] at hn; subst hn; exact ⟨_, hb⟩
 | fn h1 h2 _ _ ih1 ih2 =>
  intro n hn
  simp only [AV.names, List.mem_append] at hn
  rcases hn with hn | hn
  ·exact known_key h1 ih1 hn
  ·exact known_key h2 ih2 hn
 | tup hl _ ih => intro n hn; exact known_key hl ih (by simpa [AV.names] using hn)
 | st hl _ _ ih => intro n hn; exact known_key hl ih (by simpa [AV.names] using hn)
def ObOK (P : Program) (m : Mem) (β : Bl) (w : World) (p : Bk) : Ob → Prop
 | .cells e cs => p.ver = none ∧ ∃ c, w.heap[p.1]? = some (.cells c e (0, 0)) ∧ cs.length ≤ c.size ∧ (∀ (i : Nat) (v : Value) (a : AV), c[i]? = some v → cs[i]? = some a → v.oneCell' = true ∧ R m β v a) ∧ ∀ o, m p.1 o = none
 | .perm e len => p.ver = some len ∧ ((len = 0 ∧ p.2 = 0) ∨ ∃ c, w.heap[p.1]? = some (.cells c e (0, 0)) ∧ c.size = p.2 * szT P e ∧ len ≤ p.2 ∧ ∀ o, len * szT P e ≤ o → m p.1 o = none)
 | .map es => p.ver = none ∧ ∃ l clock, w.heap[p.1]? = some (.map l clock) ∧ (l.size = es.length ∧ clock = es.length ∧ ∀ (i : Nat) (x : MapEntry), l[i]? = some x → x.born = i) ∧ ∀ (i : Nat) (x : MapEntry) (y : Int × DV), l[i]? = some x → es[i]? = some y → x.key = .int .i64 y.1 ∧ RD m x.val y.2
 | .iter src n seen => p.ver = none ∧ ∃ q sn, β src = some q ∧ q.ver = none ∧ w.heap[p.1]? = some (.mapIter (some q.1) n sn n) ∧ sn.toList = seen
 | .bag es0 => ∃ es : List (Int × DV), es0.Perm es ∧ p.ver = none ∧ ∃ l clock, w.heap[p.1]? = some (.map l clock) ∧ (l.size = es.length ∧ clock = es.length ∧ ∀ (i : Nat) (x : MapEntry), l[i]? = some x → x.born = i) ∧ ∀ (i : Nat) (x : MapEntry) (y : Int × DV), l[i]? = some x → es[i]? = some y → x.key = .int .i64 y.1 ∧ RD m x.val y.2
 | .gro e len cs => p.ver = some len ∧ ((len = 0 ∧ p.2 = 0 ∧ cs = []) ∨ ∃ c, w.heap[p.1]? = some (.cells c e (0, 0)) ∧ c.size = p.2 * szT P e ∧ len ≤ p.2 ∧ p.2 ≤ maxLen ∧ cs.length = len * szT P e ∧ (∀ (i : Nat) (v : Value) (a : AV), c[i]? = some v → cs[i]? = some a → v.oneCell' = true ∧ R m β v a) ∧ ∀ o, m p.1 o = none)
 | .raw b o => p.ver = none ∧ p.1 = b ∧ w.heap[b]? = some o
 | .loop l st fn ps assign body d ts => p.ver = none ∧ p.1 = l ∧ ∃ tmps : Array Value, w.heap[l]? = some (.loop { state := st, pending := none, fn, tmps, params := ps, assign, body, defers := d }) ∧ tmps.size = ts.length ∧ ∀ (i : Nat) (v : Value) (a : AV), tmps[i]? = some v → ts[i]? = some a → R m β v a
def Ob.real (p : Bk) : Ob → Prop
 | .perm _ len => ¬ (len = 0 ∧ p.2 = 0)
 | .gro _ len _ => ¬ (len = 0 ∧ p.2 = 0)
 | _ => True
structure HRel (P : Program) (w0 : GW) (h : Heap) (k : Nat) (m : Mem) (β : Bl) (w : World) : Prop where
 ext : Below w0.heap.size w0 w
 mem : ∀ b o v, m b o = some v → w.cell? ⟨b, o, none⟩ = some v ∧ v.oneCell' = true
 dom : ∀ n p, β n = some p → n.1 < k
 new : ∀ n p ob, β n = some p → h n = some ob → ob.real p → w0.heap.size ≤ p.1
 obj : ∀ n ob, h n = some ob → ∃ p, β n = some p ∧ ObOK P m β w p ob
 inj : ∀ n n' p p' ob ob', h n = some ob → h n' = some ob' → β n = some p → β n' = some p' → ob.real p → ob'.real p' → p.1 = p'.1 → n = n'
def TRel (m : Mem) (β : Bl) (t : Nat → AV) (tmps : Array Value) : Prop := ∀ i v, tmps[i]? = some v → R m β v (t i)
theorem TRel.mono {m m' : Mem} {β β' : Bl} {t : Nat → AV} {tmps : Array Value} (h : TRel m β t tmps) (hm : m.le m') (hb : β.le β') : TRel m' β' t tmps := fun i v hi => (h i v hi).mono hm hb
theorem TRel.put {m : Mem} {β : Bl} {t : Nat → AV} {a : Act} (h : TRel m β t a.tmps) {d : Nat} {v : Value} {x : AV} (hr : R m β v x) : TRel m β (set t d x) (a.put (some d) v).tmps := by
 intro i u hi
 simp only [Act.put, Array.getElem?_setIfInBounds] at hi
 unfold set
 by_cases hd : d = i
 ·subst hd
  simp only [if_true] at hi ⊢
  split at hi
  ·cases hi; exact hr
  ·cases hi
 ·rw [if_neg hd] at hi
  rw [if_neg (Ne.symm hd)]
  exact h i u hi
def Operand.inN (n : Nat) : Operand → Bool
 | .tmp i => decide (i < n)
 | _ => true
theorem R.ofC {m : Mem} {β : Bl} {v : Value} (h : v.oneCell' = true) : R m β v (constC v) := by
 unfold constC
 split
 ·exact .nil
 ·exact .d (.v h)
theorem TRel.ev {m : Mem} {β : Bl} {s : St} {a : Act} {n : Nat} (h : TRel m β s.t a.tmps) (hn : a.tmps.size = n) (x : Operand) (hx : Operand.inN n x = true) (hc : ∀ v, x = .const v → ∀ c ∈ v.cells, c.oneCell' = true) : R m β (a.eval x) (s.ev x) := by
 cases x with
 | tmp i =>
  simp only [Operand.inN, decide_eq_true_eq] at hx
  simp only [Act.eval, St.ev]
  have hi : i < a.tmps.size := hn ▸ hx
  rw [← Array.getElem_eq_getD (h := hi)]
  exact h i _ (Array.getElem?_eq_getElem hi)
 | const v =>
  have hc := hc v rfl
  simp only [Act.eval, St.ev, constAV]
  split
  ·rename_i cs _
   have h1 : ∀ (i : Nat) (c : Value), cs[i]? = some c → c.oneCell' = true := fun i c hi => hc c (by simpa [Value.cells] using Array.mem_of_getElem? hi)
   refine .st (by simp) h1 fun i u b h2 h3 => ?_
   rw [List.getElem?_map, Array.getElem?_toList, h2] at h3
   cases h3
   exact .ofC (h1 i u h2)
  ·rename_i hne
   refine .ofC (hc v ?_)
   cases v <;> first | exact absurd rfl (hne _) | simp [Value.cells]
 | global g => exact .junk
 | func f => exact .fn (by rfl) (by rfl) (fun i v a h1 => by simp at h1) (fun i v a h1 => by simp at h1)
def updB (b : Bl) (n : Nm) (p : Bk) : Bl := fun x => if x = n then some p else b x
theorem updB_self (b : Bl) (n : Nm) (p : Bk) : updB b n p n = some p := by simp [updB]
theorem updB_ne (b : Bl) {n x : Nm} (p : Bk) (h : x ≠ n) : updB b n p x = b x := by simp [updB, h]
theorem updB_le {b : Bl} {n : Nm} {p : Bk} (h : ∀ q, b n = some q → q.le p) : b.le (updB b n p) := by
 intro x q hx
 unfold updB
 split
 ·subst_vars; exact ⟨p, rfl, h q hx⟩
 ·exact ⟨q, hx, .rfl' q⟩
theorem le_new {b : Bl} {n : Nm} {p : Bk} (h : b n = none) : ∀ q, b n = some q → q.le p := fun q e => by rw [h] at e; cases e
theorem le_old {b : Bl} {n : Nm} {p : Bk} (h : b n = some p) : ∀ q, b n = some q → q.le p := fun q e => by rw [h] at e; cases e; exact .rfl' p
theorem updB_none {b : Bl} {n x : Nm} {p : Bk} (h : x ≠ n) (hx : b x = none) : updB b n p x = none := (updB_ne _ _ h).trans hx
theorem upd_self (h : Heap) (n : Nm) (o : Option Ob) : upd h n o n = o := by simp [upd]
theorem upd_ne (h : Heap) {n x : Nm} (o : Option Ob) (e : x ≠ n) : upd h n o x = h x := by simp [upd, e]
theorem ObOK.keep {P : Program} {m m' : Mem} {β β' : Bl} {w w' : World} {p : Bk} {ob : Ob} (h : ObOK P m β w p ob) (hm : m.le m') (hb : β.le β') (hk : ob.real p → w'.heap[p.1]? = w.heap[p.1]? ∧ ∀ o, m' p.1 o = m p.1 o) : ObOK P m' β' w' p ob := by
 cases ob with
 | cells e cs =>
  obtain ⟨hv, c, h1, h2, h3, h4⟩ := h
  obtain ⟨k1, k2⟩ := hk trivial
  exact ⟨hv, c, k1.trans h1, h2, fun i v a hi ha => ⟨(h3 i v a hi ha).1, (h3 i v a hi ha).2.mono hm hb⟩, fun o => (k2 o).trans (h4 o)⟩
 | perm e len =>
  obtain ⟨hv, h⟩ := h
  refine ⟨hv, ?_⟩
  by_cases hp : len = 0 ∧ p.2 = 0
  ·exact .inl hp
  ·obtain ⟨k1, k2⟩ := hk hp
   rcases h with h | ⟨c, h1, h2, h3, h4⟩
   ·exact absurd h hp
   ·exact .inr ⟨c, k1.trans h1, h2, h3, fun o ho => (k2 o).trans (h4 o ho)⟩
 | map es =>
  obtain ⟨hv, l, clock, h1, h2, h3⟩ := h
  obtain ⟨k1, _⟩ := hk trivial
  exact ⟨hv, l, clock, k1.trans h1, h2, fun i x y hi hy => ⟨(h3 i x y hi hy).1, (h3 i x y hi hy).2.mono hm⟩⟩
 | iter src n seen =>
  obtain ⟨hv, q, sn, h1, h2, h3, h4⟩ := h
  obtain ⟨k1, _⟩ := hk trivial
  exact ⟨hv, q, sn, hb.hard h1 h2, h2, k1.trans h3, h4⟩
 | bag es0 =>
  obtain ⟨es, hp, hv, l, clock, h1, h2, h3⟩ := h
  obtain ⟨k1, _⟩ := hk trivial
  exact ⟨es, hp, hv, l, clock, k1.trans h1, h2, fun i x y hi hy => ⟨(h3 i x y hi hy).1, (h3 i x y hi hy).2.mono hm⟩⟩
 | raw b o =>
  obtain ⟨hv, h1, h2⟩ := h
  obtain ⟨k1, _⟩ := hk trivial
  rw [h1] at k1
  exact ⟨hv, h1, k1.trans h2⟩
 | loop l st fn ps assign body d ts =>
  obtain ⟨hv, h1, tmps, h2, h3, h4⟩ := h
  obtain ⟨k1, _⟩ := hk trivial
  rw [h1] at k1
  exact ⟨hv, h1, tmps, k1.trans h2, h3, fun i v a hi ha => (h4 i v a hi ha).mono hm hb⟩
 | gro e len cs =>
  obtain ⟨hv, h⟩ := h
  refine ⟨hv, ?_⟩
  by_cases hp : len = 0 ∧ p.2 = 0
  ·rcases h with h | ⟨c, h1, h2, h3, h4, h5, h6, h7⟩
   ·exact .inl h
   ·refine .inl ⟨hp.1, hp.2, List.eq_nil_of_length_eq_zero ?_⟩
    rw [h5, hp.1, Nat.zero_mul]
  ·obtain ⟨k1, k2⟩ := hk hp
   rcases h with h | ⟨c, h1, h2, h3, h4, h5, h6, h7⟩
   ·exact absurd ⟨h.1, h.2.1⟩ hp
   ·exact .inr ⟨c, k1.trans h1, h2, h3, h4, h5, fun i v a hi ha => ⟨(h6 i v a hi ha).1, (h6 i v a hi ha).2.mono hm hb⟩, fun o => (k2 o).trans (h7 o)⟩
section
variable {P : Program} {w0 : GW} {w w' : World} {h : Heap} {k : Nat} {m m' : Mem} {β β' : Bl}
theorem HRel.size (H : HRel P w0 h k m β w) : w0.heap.size ≤ w.heap.size := H.ext.size
theorem HRel.mem_lt (H : HRel P w0 h k m β w) {b o : Nat} {v : Value} (hm : m b o = some v) : b < w.heap.size := World.block_lt_of_cell? w ⟨b, o, none⟩ (H.mem b o v hm).1
theorem HRel.fresh (H : HRel P w0 h k m β w) {b : Nat} (hb : w.heap.size ≤ b) (o : Nat) : m b o = none := by
 cases hm : m b o with
 | none => rfl
 | some v => have := H.mem_lt hm; omega
theorem ObOK.lt {p : Bk} {ob : Ob} (hob : ObOK P m β w p ob) (hr : ob.real p) : p.1 < w.heap.size := by
 have key : ∀ x : Obj, w.heap[p.1]? = some x → p.1 < w.heap.size := fun x hx => (Array.getElem?_eq_some_iff.1 hx).1
 cases ob with
 | cells e cs => obtain ⟨_, c, h1, _⟩ := hob; exact key _ h1
 | perm e len =>
  rcases hob.2 with h | ⟨c, h1, _⟩
  ·exact absurd h hr
  ·exact key _ h1
 | map es => obtain ⟨_, l, clock, h1, _⟩ := hob; exact key _ h1
 | iter src n seen => obtain ⟨_, q, sn, _, _, h1, _⟩ := hob; exact key _ h1
 | bag es0 => obtain ⟨es, _, _, l, clock, h1, _⟩ := hob; exact key _ h1
 | raw b o => obtain ⟨_, h1, h2⟩ := hob; exact key o (by rw [h1]; exact h2)
 | loop l st fn ps assign body d ts => obtain ⟨_, h1, tmps, h2, _⟩ := hob; exact key _ (by rw [h1]; exact h2)
 | gro e len cs =>
  rcases hob.2 with h | ⟨c, h1, _⟩
  ·exact absurd ⟨h.1, h.2.1⟩ hr
  ·exact key _ h1
theorem HRel.lt (H : HRel P w0 h k m β w) {n : Nm} {ob : Ob} {p : Bk} (h1 : h n = some ob) (h2 : β n = some p) (hr : ob.real p) : p.1 < w.heap.size := by
 obtain ⟨q, h3, h4⟩ := H.obj n ob h1
 rw [h2] at h3; cases h3
 exact h4.lt hr
theorem HRel.upd1 (H : HRel P w0 h k m β w) {n : Nm} {p : Bk} {ob : Ob} (hbn : ∀ q, β n = some q → q.le p) (hk : n.1 < k) (hext : Below w0.heap.size w0 w') (hm : m.le m')
  (hmem : ∀ b o v, m' b o = some v → w'.cell? ⟨b, o, none⟩ = some v ∧ v.oneCell' = true) (hob : ObOK P m' (updB β n p) w' p ob) (hnew : ob.real p → w0.heap.size ≤ p.1)
  (hoth : ∀ x p' ob', x ≠ n → h x = some ob' → β x = some p' → ob'.real p' → (ob.real p → p'.1 ≠ p.1) ∧ w'.heap[p'.1]? = w.heap[p'.1]? ∧ ∀ o, m' p'.1 o = m p'.1 o) : HRel P w0 (upd h n (some ob)) k m' (updB β n p) w' := by
 refine ⟨hext, hmem, ?_, ?_, ?_, ?_⟩
 ·intro x q hx
  unfold updB at hx
  split at hx
  ·subst_vars; exact hk
  ·exact H.dom x q hx
 ·intro x q o hx ho hr
  by_cases e : x = n
  ·subst e
   rw [updB_self] at hx; rw [upd_self] at ho; cases hx; cases ho; exact hnew hr
  ·rw [updB_ne _ _ e] at hx; rw [upd_ne _ _ e] at ho; exact H.new x q o hx ho hr
 ·intro x o ho
  by_cases e : x = n
  ·subst e
   rw [upd_self] at ho; cases ho
   exact ⟨p, updB_self _ _ _, hob⟩
  ·rw [upd_ne _ _ e] at ho
   obtain ⟨q, h1, h2⟩ := H.obj x o ho
   exact ⟨q, (updB_ne _ _ e).trans h1, h2.keep hm (updB_le hbn) fun hr => (hoth x q o e ho h1 hr).2⟩
 ·intro x y q q' o o' hx hy hq hq' hr hr' e
  by_cases ex : x = n
  ·by_cases ey : y = n
   ·exact ex.trans ey.symm
   ·subst ex
    rw [upd_self] at hx; rw [upd_ne _ _ ey] at hy; rw [updB_self] at hq; rw [updB_ne _ _ ey] at hq'
    cases hx; cases hq
    exact absurd e.symm ((hoth y q' o' ey hy hq' hr').1 hr)
  ·by_cases ey : y = n
   ·subst ey
    rw [upd_self] at hy; rw [upd_ne _ _ ex] at hx; rw [updB_self] at hq'; rw [updB_ne _ _ ex] at hq
    cases hy; cases hq'
    exact absurd e ((hoth x q o ex hx hq hr).1 hr')
   ·rw [upd_ne _ _ ex] at hx; rw [upd_ne _ _ ey] at hy; rw [updB_ne _ _ ex] at hq; rw [updB_ne _ _ ey] at hq'
    exact H.inj x y q q' o o' hx hy hq hq' hr hr' e
theorem HRel.del (H : HRel P w0 h k m β w) (n : Nm) : HRel P w0 (upd h n none) k m β w := by
 have key : ∀ x o, upd h n none x = some o → h x = some o := fun x o hx => by
  unfold upd at hx; split at hx
  ·cases hx
  ·exact hx
 exact ⟨H.ext, H.mem, H.dom, fun x p ob hx ho hr => H.new x p ob hx (key _ _ ho) hr, fun x ob ho => H.obj x ob (key _ _ ho), fun x y p p' o o' hx hy => H.inj x y p p' o o' (key _ _ hx) (key _ _ hy)⟩
theorem HRel.draw (H : HRel P w0 h k m β w) : HRel P w0 h k m β w.drew :=
 ⟨⟨H.ext.os, H.ext.tape, H.ext.output, H.ext.size, H.ext.block⟩, H.mem, H.dom, H.new, H.obj, H.inj⟩
theorem HRel.tick (H : HRel P w0 h k m β w) {k' : Nat} (hk : k ≤ k') : HRel P w0 h k' m β w :=
 ⟨H.ext, H.mem, fun n p hn => Nat.lt_of_lt_of_le (H.dom n p hn) hk, H.new, H.obj, H.inj⟩
theorem HRel.alloc (H : HRel P w0 h k m β w) {n : Nm} (hbn : β n = none) (hk : n.1 < k) {c : Array Value} {e : TypeId} {cs : List AV} (hl : cs.length ≤ c.size) (hc : ∀ (i : Nat) (v : Value) (a : AV), c[i]? = some v → cs[i]? = some a → v.oneCell' = true ∧ R m β v a) :
  HRel P w0 (upd h n (some (.cells e cs))) k m (updB β n ⟨w.heap.size, 0, none⟩) (w.alloc (.cells c e)) := by
 refine H.upd1 (le_new hbn) hk (Below.alloc H.ext H.size _) (.rfl' m) (fun b o v hv => ?_) ?_ (fun _ => H.size) ?_
 ·obtain ⟨h1, h2⟩ := H.mem b o v hv
  exact ⟨(World.cell?_alloc_lt w _ ⟨b, o, none⟩ (H.mem_lt hv)).trans h1, h2⟩
 ·exact ⟨rfl, c, heap_alloc_new w _, hl, fun i v a hi ha => ⟨(hc i v a hi ha).1, (hc i v a hi ha).2.mono (.rfl' m) (updB_le (le_new hbn))⟩, fun o => H.fresh (Nat.le_refl _) o⟩
 ·intro x p' ob' _ hx hp hr
  have := H.lt hx hp hr
  exact ⟨fun _ => Nat.ne_of_lt this, heap_alloc_old w _ this, fun _ => rfl⟩
def Mem.add (m : Mem) (b : Nat) (f : Nat → Option Value) : Mem := fun x o => if x = b then (match m b o with | some v => some v | none => f o) else m x o
theorem Mem.add_le (m : Mem) (b : Nat) (f : Nat → Option Value) : m.le (m.add b f) := by
 intro x o v hv
 unfold Mem.add
 split
 ·subst_vars; rw [hv]
 ·exact hv
theorem Mem.add_ne (m : Mem) {b x : Nat} (f : Nat → Option Value) (h : x ≠ b) (o : Nat) : m.add b f x o = m x o := by simp [Mem.add, h]
theorem Mem.add_new (m : Mem) {b : Nat} (f : Nat → Option Value) {o : Nat} (h : m b o = none) : m.add b f b o = f o := by simp [Mem.add, h]
theorem HRel.row (H : HRel P w0 h k m β w) {n : Nm} (hbn : β n = none) (hk : n.1 < k) {c : Array Value} {e : TypeId} {len : Nat} (hsz : c.size = len * szT P e) (hc : ∀ (i : Nat) (v : Value), c[i]? = some v → v.oneCell' = true) :
  HRel P w0 (upd h n (some (.perm e len))) k (m.add w.heap.size fun o => c[o]?) (updB β n ⟨w.heap.size, len, some len⟩) (w.alloc (.cells c e)) := by
 have hf := fun o => H.fresh (Nat.le_refl w.heap.size) o
 refine H.upd1 (le_new hbn) hk (Below.alloc H.ext H.size _) (Mem.add_le _ _ _) (fun b o v hv => ?_) ⟨rfl, .inr ⟨c, heap_alloc_new w _, hsz, Nat.le_refl _, fun o ho => ?_⟩⟩ (fun _ => H.size) ?_
 ·by_cases hb : b = w.heap.size
  ·subst hb
   rw [Mem.add_new _ _ (hf o)] at hv
   exact ⟨(World.cell?_alloc_new w c e o).trans hv, hc o v hv⟩
  ·rw [Mem.add_ne _ _ hb] at hv
   obtain ⟨h1, h2⟩ := H.mem b o v hv
   exact ⟨(World.cell?_alloc_lt w _ ⟨b, o, none⟩ (H.mem_lt hv)).trans h1, h2⟩
 ·rw [Mem.add_new _ _ (hf o), Array.getElem?_eq_none (by rw [hsz]; exact ho)]
 ·intro x p' ob' _ hx hp hr
  have := H.lt hx hp hr
  exact ⟨fun _ => Nat.ne_of_lt this, heap_alloc_old w _ this, fun o => Mem.add_ne _ _ (Nat.ne_of_lt this) o⟩
theorem HRel.store (H : HRel P w0 h k m β w) {n : Nm} {e : TypeId} {cs cs' : List AV} (hn : h n = some (.cells e cs)) {p : Bk} (hp : β n = some p) {c : Array Value} (hl : cs'.length ≤ c.size)
  (hc : ∀ (i : Nat) (v : Value) (a : AV), c[i]? = some v → cs'[i]? = some a → v.oneCell' = true ∧ R m β v a) : HRel P w0 (upd h n (some (.cells e cs'))) k m β (w.setRow p.1 c) := by
 obtain ⟨q, hq, hver, c0, h1, h2, h3, h4⟩ := H.obj n _ hn
 rw [hp] at hq; cases hq
 have hB : w0.heap.size ≤ p.1 := H.new n p _ hp hn trivial
 have e1 : updB β n p = β := by
  funext x; unfold updB; split
  ·subst_vars; exact hp.symm
  ·rfl
 have := H.upd1 (n := n) (p := p) (ob := .cells e cs') (m' := m) (w' := w.setRow p.1 c) (le_old hp) (H.dom n p hp) (H.ext.trans ⟨rfl, rfl, rfl, by simp [World.setRow], fun k hk => setRow_other w p.1 k c (by omega)⟩) (.rfl' m) (fun b o v hv => ?_) ?_ (fun _ => hB) ?_
 ·rwa [e1] at this
 ·have hb : b ≠ p.1 := fun e => by subst e; rw [h4 o] at hv; cases hv
  exact ⟨(cell_setRow_other w p.1 c ⟨b, o, none⟩ hb).trans (H.mem b o v hv).1, (H.mem b o v hv).2⟩
 ·rw [e1]
  exact ⟨hver, c, setRow_heap w p.1 c0 c e _ h1, hl, hc, h4⟩
 ·intro x p' ob' hx hob hp' hr
  have hne : p'.1 ≠ p.1 := fun e => hx (H.inj x n p' p ob' _ hob hn hp' hp hr trivial e)
  exact ⟨fun _ => hne, setRow_other w p.1 p'.1 c hne, fun _ => rfl⟩
end
theorem add_none' (b o n : Nat) : (⟨b, o, none⟩ : Addr).add n = ⟨b, o + n, none⟩ := by unfold Addr.add; split <;> simp_all
def VRes (P : Program) (w0 : GW) (h : Heap) (k : Nat) (m : Mem) (β : Bl) (w : World) (nm : Nm) (e : Eff) (s : Sem Value) : Prop :=
 ∃ v w' m' β', s.run P w = .ok v w' ∧ m.le m' ∧ β.le β' ∧ (∀ n, n ≠ nm → β n = none → β' n = none) ∧ HRel P w0 (e.ap h) k m' β' w' ∧ R m' β' v e.val
section
variable {P : Program} {w0 : GW} {w : World} {h : Heap} {k : Nat} {m : Mem} {β : Bl} {nm : Nm}
theorem VRes.same {s : Sem Value} {e : Eff} {v : Value} (H : HRel P w0 h k m β w) (hr : s.run P w = .ok v w) (he : e.wr = []) (hv : R m β v e.val) : VRes P w0 h k m β w nm e s := by
 refine ⟨v, w, m, β, hr, .rfl' m, .rfl' β, fun _ _ h => h, ?_, hv⟩
 unfold Eff.ap
 rw [he]
 exact H
theorem info_of {t : TypeId} (ht : (P.info? t).isSome = true) : ∃ i, P.info? t = some i ∧ szT P t = i.size ∧ bytesT P t = i.bytes := by
 obtain ⟨i, hi⟩ := Option.isSome_iff_exists.1 ht
 exact ⟨i, hi, by simp [szT, hi], by simp [bytesT, hi]⟩
theorem hasT_info {t : TypeId} (ht : hasT P t = true) : (P.info? t).isSome = true := by unfold hasT at ht; simp at ht; simp [ht.1]
theorem run_sizeOf' {t : TypeId} (ht : (P.info? t).isSome = true) (w : World) : (sizeOf t).run P w = .ok (szT P t) w := by
 obtain ⟨i, hi, hs, _⟩ := info_of ht
 simp [sizeOf, typeInfo, hi, hs]
theorem run_isAgg' {t : TypeId} (ht : hasT P t = true) (w : World) : (isAgg t).run P w = .ok (aggT P t) w := by
 unfold hasT at ht
 simp at ht
 obtain ⟨d, hd⟩ := Option.isSome_iff_exists.1 ht.2
 cases d <;> simp [isAgg, aggT, run_underlying hd, hd]
theorem slT_of {t : TypeId} (ht : slT P t = true) : P.underlying t = some (.slice (elT P t)) := by
 unfold slT at ht; unfold elT
 cases hd : P.underlying t with
 | none => simp [hd] at ht
 | some d => cases d <;> simp_all
theorem strT_of {t : TypeId} (ht : strT P t = true) : P.underlying t = some .string := by
 unfold strT at ht
 cases hd : P.underlying t with
 | none => simp [hd] at ht
 | some d => cases d <;> simp_all
theorem arT_of {t : TypeId} {n : Nat} (ht : arT P t = some n) : P.underlying t = some (.array n (elT P t)) := by
 unfold arT at ht; unfold elT
 cases hd : P.underlying t with
 | none => simp [hd] at ht
 | some d => cases d <;> simp_all
theorem fldT_of {t : TypeId} {f : Nat} {x : Nat × TypeId} (ht : fldT P t f = some x) : ∃ fs fl, P.underlying t = some (.struct fs) ∧ fs[f]? = some fl ∧ fl.offset = x.1 ∧ fl.type = x.2 := by
 unfold fldT at ht
 cases hd : P.underlying t with
 | none => simp [hd] at ht
 | some d =>
  cases d <;> simp [hd] at ht
  rename_i fs
  obtain ⟨fl, h1, h2⟩ := ht
  exact ⟨fs, fl, rfl, h1, by rw [← h2], by rw [← h2]⟩
theorem zeroOk_of {t : TypeId} (ht : zeroOk P t = true) : ∃ i z, P.info? t = some i ∧ i.zero = some z ∧ z.cells.size = szT P t ∧ szT P t = i.size ∧ (∀ (j : Nat) (c : Value), z.cells[j]? = some c → c.oneCell' = true) ∧ zeroAV P t = (constAV z).cells := by
 unfold zeroOk at ht
 cases hz : zeroT P t with
 | none => simp [hz] at ht
 | some z =>
  simp only [hz, Bool.and_eq_true, decide_eq_true_eq] at ht
  obtain ⟨⟨h1, h2⟩, h3⟩ := ht
  obtain ⟨i, hi, hs, _⟩ := info_of h3
  refine ⟨i, z, hi, ?_, h1, hs, fun j c hc => ?_, by simp [zeroAV, hz]⟩
  ·unfold zeroT at hz; rw [hi] at hz; exact hz
  ·rw [Array.all_eq_true_iff_forall_mem] at h2
   exact h2 c (Array.mem_of_getElem? hc)
theorem run_zero {t : TypeId} {i : TypeInfo} {z : Value} (hi : P.info? t = some i) (hz : i.zero = some z) (w : World) : (zeroValue t).run P w = .ok z w := by simp [zeroValue, typeInfo, hi, hz]
theorem R.cells {v : Value} {a : AV} (hr : R m β v a) (ha : stOK a) : v.cells.size = a.cells.length ∧ ∀ (i : Nat) (c : Value) (b : AV), v.cells[i]? = some c → a.cells[i]? = some b → c.oneCell' = true ∧ R m β c b := by
 have one : ∀ {v : Value} {a : AV}, v.oneCell' = true → R m β v a → a.cells = [a] → v.cells.size = a.cells.length ∧ ∀ (i : Nat) (c : Value) (b : AV), v.cells[i]? = some c → a.cells[i]? = some b → c.oneCell' = true ∧ R m β c b := by
  intro v a h1 hr h2
  have e : v.cells = #[v] := by cases v <;> simp_all [Value.cells, Value.oneCell']
  rw [e, h2]
  refine ⟨rfl, fun i c b hc hb => ?_⟩
  cases i with
  | zero => simp at hc hb; subst hc; subst hb; exact ⟨h1, hr⟩
  | succ i => simp at hb
 cases hr with
 | junk => exact ha.elim
 | un => exact ha.elim
 | ifc => exact ha.elim
 | nn => exact ha.elim
 | tup => exact ha.elim
 | d hd =>
  cases hd with
  | v h1 => exact one h1 (.d (.v h1)) rfl
  | st hl h1 hc =>
   refine ⟨by simpa [Value.cells, AV.cells, DV.cells] using hl, fun i c b hi hb => ?_⟩
   simp only [Value.cells, AV.cells, DV.cells, List.getElem?_map, Option.map_eq_some_iff] at hi hb
   obtain ⟨d, h2, rfl⟩ := hb
   exact ⟨h1 i c hi, .d (hc i c d hi h2)⟩
  | nil => exact one rfl (.d .nil) rfl
  | sl hn hcap hmax hsz hs hc => exact one rfl (.d (.sl hn hcap hmax hsz hs hc)) rfl
 | nil => exact one rfl .nil rfl
 | own hr hb hv hl ha' => exact one (by cases hr <;> rfl) (.own hr hb hv hl ha') rfl
 | gro hx hb hv hl ha' => exact one (by obtain ⟨a, c, rfl⟩ := hx; rfl) (.gro hx hb hv hl ha') rfl
 | arr hb hver hc hm ho => exact one rfl (.arr hb hver hc hm ho) rfl
 | el hc => exact one rfl (.el hc) rfl
 | ptr hb hver => exact one rfl (.ptr hb hver) rfl
 | map hb hver => exact one rfl (.map hb hver) rfl
 | fn h1 h2 hf hc => exact one rfl (.fn h1 h2 hf hc) rfl
 | st hl h1 hc => exact ⟨by simpa [Value.cells, AV.cells] using hl, fun i c b hi hb => ⟨h1 i c hi, hc i c b hi hb⟩⟩
theorem constAV_cells {z : Value} (hz : ∀ (j : Nat) (c : Value), z.cells[j]? = some c → c.oneCell' = true) : z.cells.size = (constAV z).cells.length ∧ ∀ (i : Nat) (c : Value) (a : AV), z.cells[i]? = some c → (constAV z).cells[i]? = some a → c.oneCell' = true ∧ R m β c a := by
 have hst : stOK (constAV z) := by unfold constAV constC; split <;> (try split) <;> trivial
 have hr : R m β z (constAV z) := by
  unfold constAV
  split
  ·rename_i cs
   refine .st (by simp) hz fun i u b h2 h3 => ?_
   rw [List.getElem?_map, Array.getElem?_toList, h2] at h3
   cases h3
   exact .ofC (hz i u h2)
  ·rename_i hne
   have e : z.cells = #[z] := by cases z <;> first | exact absurd rfl (hne _) | rfl
   exact .ofC (hz 0 z (by rw [e]; rfl))
 exact hr.cells hst
def LRes (P : Program) (m : Mem) (β : Bl) (w : World) (e : Eff) (s : Sem Value) : Prop := ∃ v, s.run P w = .ok v w ∧ R m β v e.val
theorem LRes.mk {s : Sem Value} {e : Eff} {v : Value} (hr : s.run P w = .ok v w) (hv : R m β v e.val) : LRes P m β w e s := ⟨v, hr, hv⟩
theorem load_el {t : TypeId} {b o off : Nat} {x : DV} (H : HRel P w0 h k m β w) (ht : hasT P t = true) (hc : ∀ (j : Nat) (d : DV), x.cells[j]? = some d → ∃ c, m b (o + j) = some c ∧ RD m c d)
  (hok : okLoad P t (.el x off) h) : LRes P m β w (effLoad P t (.el x off) h) (Instr.loadAt t (.pointer (some ⟨b, o + off, none⟩))) := by
 unfold okLoad at hok
 have hcell : ∀ j, off + j < x.cells.length → ∃ c, w.cell? ⟨b, o + off + j, none⟩ = some c ∧ c.oneCell' = true ∧ RD m c (x.cells.getD (off + j) default) := fun j hj => by
  obtain ⟨c, h1, h2⟩ := hc (off + j) _ (List.getElem?_eq_getElem hj)
  rw [← Nat.add_assoc] at h1
  obtain ⟨h3, h4⟩ := H.mem _ _ _ h1
  exact ⟨c, h3, h4, by rw [List.getD_eq_getElem?_getD, List.getElem?_eq_getElem hj]; exact h2⟩
 by_cases ha : aggT P t = true
 ·simp only [ha, if_true] at hok
  have hf : ∀ j, j < szT P t → w.cell? ((⟨b, o + off, none⟩ : Addr).add j) = some (((w.cell? ⟨b, o + off + j, none⟩)).getD undef) := fun j hj => by
   obtain ⟨c, h1, _⟩ := hcell j (by omega)
   rw [add_none', h1]; rfl
  refine LRes.mk (v := .agg (((List.range (szT P t)).map fun j => (w.cell? ⟨b, o + off + j, none⟩).getD undef).toArray)) ?_ ?_
  ·simp only [Instr.loadAt, Instr.sureAddr, loadVar, Sem.run_bind, Sem.run_pure, Result.andThen_ok, run_isAgg' ht, ha, if_true, run_sizeOf' (hasT_info ht), run_loadCells w _ _ _ hf]
  ·simp only [effLoad, ha, if_true]
   refine .d (.st (by simp; omega) (fun i c hi => ?_) fun i c d hi hd => ?_)
   ·simp only [List.getElem?_toArray, List.getElem?_map, Option.map_eq_some_iff] at hi
    obtain ⟨j, hj, rfl⟩ := hi
    obtain ⟨hj1, hj2⟩ := List.getElem?_eq_some_iff.1 hj
    simp at hj1 hj2
    subst hj2
    obtain ⟨c, h1, h2, _⟩ := hcell i (by omega)
    rw [h1]; exact h2
   ·simp only [List.getElem?_toArray, List.getElem?_map, Option.map_eq_some_iff] at hi
    obtain ⟨j, hj, rfl⟩ := hi
    obtain ⟨hj1, hj2⟩ := List.getElem?_eq_some_iff.1 hj
    simp at hj1 hj2
    subst hj2
    obtain ⟨c, h1, _, h3⟩ := hcell i (by omega)
    rw [h1]
    rw [List.getElem?_take, if_pos hj1, List.getElem?_drop] at hd
    rw [List.getD_eq_getElem?_getD, hd] at h3
    exact h3
 ·simp only [ha, Bool.false_eq_true, if_false] at hok
  obtain ⟨c, h1, h2, h3⟩ := hcell 0 (by omega)
  refine LRes.mk (v := c) ?_ ?_
  ·simp only [Instr.loadAt, Instr.sureAddr, loadVar, Sem.run_bind, Sem.run_pure, Result.andThen_ok, run_isAgg' ht, ha, Bool.false_eq_true, if_false, run_load]
   simp only [Nat.add_zero] at h1
   rw [h1]
  ·simp only [effLoad, ha, Bool.false_eq_true, if_false]
   exact .d h3
theorem load_ptr {t : TypeId} {n : Nm} {off : Nat} {p : Bk} (H : HRel P w0 h k m β w) (ht : hasT P t = true) (hp : β n = some p)
  (hok : okLoad P t (.ptr n off) h) : LRes P m β w (effLoad P t (.ptr n off) h) (Instr.loadAt t (.pointer (some ⟨p.1, off, none⟩))) := by
 obtain ⟨his, hok⟩ := hok
 obtain ⟨e, cs, hn⟩ : ∃ e cs, h n = some (.cells e cs) := by
  unfold isCells at his
  cases hh : h n with
  | none => simp [hh] at his
  | some ob => cases ob <;> simp [hh] at his; exact ⟨_, _, rfl⟩
 have hcs : objCells h n = cs := by simp [objCells, hn]
 rw [hcs] at hok
 obtain ⟨q, hq, _, c, c1, c2, c3, c4⟩ := H.obj n _ hn
 rw [hp] at hq; cases hq
 have hcell : ∀ j, off + j < cs.length → ∃ u, c[off + j]? = some u ∧ w.cell? ⟨p.1, off + j, none⟩ = some u ∧ u.oneCell' = true ∧ R m β u (cs.getD (off + j) .junk) := fun j hj => by
  have hj' : off + j < c.size := by omega
  have h1 : c[off + j]? = some c[off + j] := Array.getElem?_eq_getElem hj'
  obtain ⟨h2, h3⟩ := c3 (off + j) _ _ h1 (List.getElem?_eq_getElem hj)
  exact ⟨_, h1, by simp [World.cell?, c1], h2, by rw [List.getD_eq_getElem?_getD, List.getElem?_eq_getElem hj]; exact h3⟩
 by_cases ha : aggT P t = true
 ·simp only [ha, if_true] at hok
  have hf : ∀ j, j < szT P t → w.cell? ((⟨p.1, off, none⟩ : Addr).add j) = some (((w.cell? ⟨p.1, off + j, none⟩)).getD undef) := fun j hj => by
   obtain ⟨u, _, h1, _⟩ := hcell j (by omega)
   rw [add_none', h1]; rfl
  refine LRes.mk (v := .agg (((List.range (szT P t)).map fun j => (w.cell? ⟨p.1, off + j, none⟩).getD undef).toArray)) ?_ ?_
  ·simp only [Instr.loadAt, Instr.sureAddr, loadVar, Sem.run_bind, Sem.run_pure, Result.andThen_ok, run_isAgg' ht, ha, if_true, run_sizeOf' (hasT_info ht), run_loadCells w _ _ _ hf]
  ·simp only [effLoad, ha, if_true, hcs]
   refine .st (by simp; omega) (fun i c hi => ?_) fun i c d hi hd => ?_
   ·simp only [List.getElem?_toArray, List.getElem?_map, Option.map_eq_some_iff] at hi
    obtain ⟨j, hj, rfl⟩ := hi
    obtain ⟨hj1, hj2⟩ := List.getElem?_eq_some_iff.1 hj
    simp at hj1 hj2
    subst hj2
    obtain ⟨u, _, h1, h2, _⟩ := hcell i (by omega)
    rw [h1]; exact h2
   ·simp only [List.getElem?_toArray, List.getElem?_map, Option.map_eq_some_iff] at hi
    obtain ⟨j, hj, rfl⟩ := hi
    obtain ⟨hj1, hj2⟩ := List.getElem?_eq_some_iff.1 hj
    simp at hj1 hj2
    subst hj2
    obtain ⟨u, _, h1, _, h3⟩ := hcell i (by omega)
    rw [h1]
    rw [List.getElem?_take, if_pos hj1, List.getElem?_drop] at hd
    rw [List.getD_eq_getElem?_getD, hd] at h3
    exact h3
 ·simp only [ha, Bool.false_eq_true, if_false] at hok
  obtain ⟨u, _, h1, h2, h3⟩ := hcell 0 (by omega)
  refine LRes.mk (v := u) ?_ ?_
  ·simp only [Instr.loadAt, Instr.sureAddr, loadVar, Sem.run_bind, Sem.run_pure, Result.andThen_ok, run_isAgg' ht, ha, Bool.false_eq_true, if_false, run_load]
   simp only [Nat.add_zero] at h1
   rw [h1]
  ·simp only [effLoad, ha, Bool.false_eq_true, if_false, hcs]
   exact h3
theorem load_same {t : TypeId} {v : Value} {a : AV} (H : HRel P w0 h k m β w) (ht : hasT P t = true) (hv : R m β v a) (hok : okLoad P t a h) : LRes P m β w (effLoad P t a h) (Instr.loadAt t v) := by
 cases hv with
 | el hc => exact load_el H ht hc hok
 | ptr hb hver => exact load_ptr H ht hb hok
 | _ => exact hok.elim
theorem load_wr (t : TypeId) (a : AV) (h : Heap) : (effLoad P t a h).wr = [] := by unfold effLoad; split <;> rfl
theorem load_ok {t : TypeId} {v : Value} {a : AV} (H : HRel P w0 h k m β w) (ht : hasT P t = true) (hv : R m β v a) (hok : okLoad P t a h) : VRes P w0 h k m β w nm (effLoad P t a h) (Instr.loadAt t v) := by
 obtain ⟨u, h1, h2⟩ := load_same H ht hv hok
 exact VRes.same H h1 (load_wr t a h) h2
end
end Go.Proofs.YtmeekpinkfpnhabDoor
