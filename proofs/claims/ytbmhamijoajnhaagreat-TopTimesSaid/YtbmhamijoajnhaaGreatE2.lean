/- The operations and the regions of the given code over plain values, for the kernel's reduction. Nothing of the program. -/
import Derived.Test.YtbmhamijoajnhaaGreatE1
namespace Go.Proofs.YtbmhamijoajnhaaGreat.E
open Go
noncomputable section

/- Constants and types. -/
def natL (l : List UInt8) : List Nat := l.map UInt8.toNat
def ofC (v : Value) : Res CV := match v with
  | .bool b => .ok (.b b)
  | .int k n => .ok (.i k n)
  | .pointer none => .ok .z
  | .slice none 0 0 => .ok .sz
  | .nilFunc => .ok .nf
  | .map none => .ok .mz
  | .string s => .ok (.str (natL s.data.toList))
  | _ => .no (.n 20)
def ofCs (l : List Value) : Res (List CV) := mapR ofC l
def ofV (v : Value) : Res AV := match v with
  | .agg cs => (ofCs cs.toList).bind fun l => .ok (.g l)
  | .tuple vs => (guardR 21 vs.toList.isEmpty (.ok undA))
  | v => (ofC v).bind fun x => .ok (.c x)
def evO (t : PT AV) (o : Operand) : Res AV := match o with
  | .tmp n => ofOpt 22 (t.get n)
  | .const v => ofV v
  | .func f => .ok (.c (.f f []))
  | .global _ => .no (.n 23)
def tyU (P : Program) (t : Nat) : Res TypeDesc := ofOpt 24 (P.underlying t)
def tyI (P : Program) (t : Nat) : Res TypeInfo := ofOpt 25 (P.info? t)
def zeros (P : Program) (t : Nat) : Res (List CV) := (tyI P t).bind fun i => (ofOpt 26 i.zero).bind fun z => ofCs z.cells.toList
def aggD (d : TypeDesc) : Bool := match d with
  | .struct _ => true
  | .array _ _ => true
  | _ => false
def repL {α : Type} (l : List α) (n : Nat) : List α := Nat.rec (motive := fun _ => List α) [] (fun _ ih => l ++ ih) n

/- Numbers. -/
def linOf (x : CV) : Res Lin := match x with
  | .i _ n => .ok (.mk n [])
  | .x _ e => .ok e
  | _ => .no (.n 30)
def kindOf (x : CV) : Res IntKind := match x with
  | .i k _ => .ok k
  | .x k _ => .ok k
  | _ => .no (.n 31)
def decK (a b : IntKind) : Bool := decide (a = b)
def inKL (F : Facts) (k : IntKind) (e : Lin) : Bool := Bool.rec (motive := fun _ => Bool) false (sure F (e.neg.off (kmax k))) (sure F (e.off (ineg (kmin k))))
def symR (F : Facts) (k : IntKind) (e : Lin) : Res CV := guardR 32 (inKL F k e) (.ok (.x k e))
def addS (F : Facts) (x y : CV) : Res CV := (kindOf x).bind fun k => (linOf x).bind fun a => (linOf y).bind fun b => symR F k (a.add b)
def subS (F : Facts) (x y : CV) : Res CV := (kindOf x).bind fun k => (linOf x).bind fun a => (linOf y).bind fun b => symR F k (a.sub b)
def geS (F : Facts) (x y : CV) (n : Int) : Res Bool := (linOf x).bind fun a => (linOf y).bind fun b => ge0 F ((a.sub b).off n)
def bR (b : Bool) : Res CV := .ok (.b b)
def eqS (F : Facts) (x y : CV) : Res Bool := (geS F x y (.ofNat 0)).bind fun b => Bool.rec (motive := fun _ => Res Bool) (.ok false) (geS F y x (.ofNat 0)) b
def notB (b : Bool) : Bool := Bool.rec (motive := fun _ => Bool) true false b
def symOp (F : Facts) (op : BinOp) (x y : CV) : Res CV := match op with
  | .add => addS F x y
  | .sub => subS F x y
  | .lss => (geS F y x (.negSucc 0)).bind bR
  | .leq => (geS F y x (.ofNat 0)).bind bR
  | .gtr => (geS F x y (.negSucc 0)).bind bR
  | .geq => (geS F x y (.ofNat 0)).bind bR
  | .eql => (eqS F x y).bind bR
  | .neq => (eqS F x y).bind fun b => bR (notB b)
  | _ => .no (.n 33)
def natOf (n : Int) : Res Nat := Int.rec (motive := fun _ => Res Nat) (fun x => .ok x) (fun _ => .no (.n 34)) n
/-- What fits the kind as it stands. -/
def fitN (k : IntKind) (n : Nat) : Res CV := guardR 35 (ile (.ofNat n) (kmax k)) (.ok (.i k (.ofNat n)))
def bitOp (k : IntKind) (a b : Int) (f : Nat → Nat → Nat) : Res CV := (natOf a).bind fun x => (natOf b).bind fun y => guardR 36 (ile a (kmax k)) (guardR 36 (ile b (kmax k)) (fitN k (f x y)))
def bitsK (k : IntKind) : Nat := match k with
  | .i8 | .u8 => 8 | .i16 | .u16 => 16 | .i32 | .u32 => 32 | .i64 | .u64 => 64
def shrI (a : Int) (n : Nat) : Int := Int.rec (motive := fun _ => Int) (fun x => .ofNat (Nat.div x (Nat.pow 2 n))) (fun x => .negSucc (Nat.div x (Nat.pow 2 n))) a
def concOp (op : BinOp) (k : IntKind) (a b : Int) : Res CV := match op with
  | .add => .ok (.i k (wrapK k (iadd a b)))
  | .sub => .ok (.i k (wrapK k (iadd a (ineg b))))
  | .mul => .ok (.i k (wrapK k (imul a b)))
  | .lss => bR (notB (ile b a))
  | .leq => bR (ile a b)
  | .gtr => bR (notB (ile a b))
  | .geq => bR (ile b a)
  | .eql => bR (ieq a b)
  | .neq => bR (notB (ieq a b))
  | .or => bitOp k a b Nat.lor
  | .and => bitOp k a b Nat.land
  | .quo => (natOf a).bind fun x => (natOf b).bind fun y => guardR 37 (Nat.ble 1 y) (fitN k (Nat.div x y))
  | .rem => (natOf a).bind fun x => (natOf b).bind fun y => guardR 38 (Nat.ble 1 y) (.ok (.i k (.ofNat (Nat.mod x y))))
  | _ => .no (.n 39)
def shOp (op : BinOp) (k : IntKind) (a b : Int) : Res CV := (natOf b).bind fun n => guardR 40 (Nat.ble n (bitsK k)) (match op with
  | .shl => .ok (.i k (wrapK k (imul a (.ofNat (Nat.pow 2 n)))))
  | .shr => .ok (.i k (shrI a n))
  | _ => .no (.n 41))
def isSh (op : BinOp) : Bool := match op with
  | .shl => true
  | .shr => true
  | _ => false
def eqb (op : BinOp) (b : Bool) : Res CV := match op with
  | .eql => bR b
  | .neq => bR (notB b)
  | _ => .no (.n 42)
def beqB (a b : Bool) : Bool := Bool.rec (motive := fun _ => Bool) (notB b) b a
def beqL (l : List Nat) : List Nat → Bool :=
  List.rec (motive := fun _ => List Nat → Bool) (fun r => List.rec (motive := fun _ => Bool) true (fun _ _ _ => false) r) (fun a _ ih r => List.rec (motive := fun _ => Bool) false (fun b r _ => Bool.rec (motive := fun _ => Bool) false (ih r) (Nat.beq a b)) r) l
def intOp (F : Facts) (op : BinOp) (k : IntKind) (a : Int) (y : CV) : Res CV := match y with
  | .i k' b => Bool.rec (motive := fun _ => Res CV) (guardR 43 (decK k k') (concOp op k a b)) (shOp op k a b) (isSh op)
  | .x k' _ => guardR 43 (decK k k') (symOp F op (.i k a) y)
  | _ => .no (.n 44)
def symOpK (F : Facts) (op : BinOp) (k : IntKind) (x y : CV) : Res CV := match y with
  | .i k' _ => guardR 45 (decK k k') (symOp F op x y)
  | .x k' _ => guardR 45 (decK k k') (symOp F op x y)
  | _ => .no (.n 46)
def ptrTy (d : TypeDesc) : Bool := match d with
  | .pointer _ => true
  | _ => false
def slTy (d : TypeDesc) : Bool := match d with
  | .slice _ => true
  | _ => false
def boolTy (d : TypeDesc) : Bool := match d with
  | .bool => true
  | _ => false
def isBool (x : CV) : Res Bool := match x with
  | .b y => .ok y
  | _ => .no (.n 47)
/-- Is it the nil pointer? -/
def nilP (x : CV) : Res Bool := match x with
  | .z => .ok true
  | .p _ _ => .ok false
  | _ => .no (.n 48)
def nilS (x : CV) : Res Bool := match x with
  | .sz => .ok true
  | .s .. => .ok false
  | .se => .ok false
  | _ => .no (.n 49)
def binC (P : Program) (F : Facts) (op : BinOp) (t : Nat) (x y : CV) : Res CV := match x with
  | .i k a => intOp F op k a y
  | .x k _ => symOpK F op k x y
  | .b a => (isBool y).bind fun b => (tyU P t).bind fun d => guardR 50 (boolTy d) (eqb op (beqB a b))
  | .str a => (match y with
    | .str b => eqb op (beqL a b)
    | _ => .no (.n 51))
  | .z => (nilP y).bind fun b => (tyU P t).bind fun d => guardR 52 (ptrTy d) (eqb op b)
  | .p _ _ => (nilP y).bind fun b => guardR 53 b ((tyU P t).bind fun d => guardR 52 (ptrTy d) (eqb op false))
  | .sz => (nilS y).bind fun b => (tyU P t).bind fun d => guardR 54 (slTy d) (eqb op b)
  | .s .. => (nilS y).bind fun b => guardR 55 b ((tyU P t).bind fun d => guardR 54 (slTy d) (eqb op false))
  | .se => (nilS y).bind fun b => guardR 55 b ((tyU P t).bind fun d => guardR 54 (slTy d) (eqb op false))
  | _ => .no (.n 56)
def unC (op : UnOp) (x : CV) : Res CV := match op, x with
  | .not, .b y => bR (notB y)
  | .neg, .i k n => .ok (.i k (wrapK k (ineg n)))
  | _, _ => .no (.n 57)
def unS (F : Facts) (op : UnOp) (x : CV) : Res CV := match op, x with
  | .neg, .x k e => symR F k e.neg
  | op, x => unC op x
def u8s (l : List CV) : Res (List Nat) := mapR (fun x => match x with
  | .i .u8 n => (natOf n).bind fun m => guardR 58 (Nat.ble m 255) (.ok m)
  | _ => .no (.n 59)) l
def convI (F : Facts) (k : IntKind) (x : CV) : Res CV := match x with
  | .i _ n => .ok (.i k (wrapK k n))
  | .x _ e => symR F k e
  | _ => .no (.n 60)
def convS (P : Program) (M : Mem) (e : Nat) (x : CV) : Res CV := (tyU P e).bind fun d => match d with
  | .int .u8 => (match x with
    | .sz => .ok (.str [])
    | .s b o n _ _ _ => (ldN M b o n).bind fun l => (u8s l).bind fun l => .ok (.str l)
    | _ => .no (.n 61))
  | _ => .no (.n 62)
def convC (P : Program) (F : Facts) (M : Mem) (s d : Nat) (x : CV) : Res CV := (tyU P s).bind fun ds => (tyU P d).bind fun dd => match dd with
  | .int k => convI F k x
  | .string => (match ds with
    | .slice e => convS P M e x
    | _ => .no (.n 63))
  | _ => .no (.n 64)

/- What is made. -/
def splice (l : List CV) (o : Nat) (m : List CV) : List CV := l.take o ++ m ++ l.drop (o + m.length)
def fillA (place : Nat → Option (Nat × Nat)) (ps : List (Nat × AV)) : List CV → Res (List CV) :=
  List.rec (motive := fun _ => List CV → Res (List CV)) (fun c => .ok c) (fun p _ ih c => (ofOpt 70 (place p.1)).bind fun q => p.2.cells.bind fun l => guardR 71 (Nat.beq l.length q.2) (guardR 72 (Nat.ble (Nat.add q.1 l.length) c.length) (ih (splice c q.1 l)))) ps
def partsR (ρ : Operand → Res AV) (ps : Array (Nat × Operand)) : Res (List (Nat × AV)) := mapR (fun p => (ρ p.2).bind fun v => .ok (p.1, v)) ps.toList
def placesOf (P : Program) (fs : Array Field) : Res (List (Nat × Nat)) := mapR (fun f => (tyI P f.type).bind fun i => .ok (f.offset, i.size)) fs.toList
def buildA (P : Program) (ρ : Operand → Res AV) (t : Nat) (ps : Array (Nat × Operand)) : Res AV :=
  (partsR ρ ps).bind fun l => (zeros P t).bind fun z => (tyU P t).bind fun d => match d with
  | .struct fs => (placesOf P fs).bind fun pl => (fillA (fun i => pl[i]?) l z).bind fun c => .ok (.g c)
  | _ => .no (.n 73)
def okM (v : CV) (M : Mem) : Res (AV × Mem) := .ok (.c v, M)
/-- What is made, and how it is pointed at. -/
inductive NewV where
  | p
  | s (n c sz : Nat)
  | m
def NewV.at (v : NewV) (b : Nat) : CV := match v with
  | .p => .p b 0
  | .s n c sz => .s b 0 n c true sz
  | .m => .m b
def rowB (l : List CV) : Blk := .cl (putC l 0 .lf)
def addB (M : Mem) (b : Blk) : Mem := ⟨M.bl.set b M.nx, Nat.succ M.nx⟩
abbrev NewT := Blk × NewV
def buildSl (P : Program) (ρ : Operand → Res AV) (t n : Nat) (ps : Array (Nat × Operand)) : Res NewT :=
  (partsR ρ ps).bind fun l => (tyU P t).bind fun d => match d with
  | .slice e => (tyI P e).bind fun i => (zeros P e).bind fun z => guardR 74 (Nat.beq z.length i.size) (guardR 75 (Nat.ble (Nat.mul n i.size) 16777216) (guardR 76 (Nat.ble 1 i.size) ((fillA (fun j => some (Nat.mul j i.size, i.size)) l (repL z n)).bind fun c => .ok (rowB c, .s n n i.size))))
  | _ => .no (.n 77)
def allocA (P : Program) (t : Nat) : Res NewT := (zeros P t).bind fun z => .ok (rowB z, .p)
def boxA (v : AV) : Res NewT := v.cells.bind fun l => .ok (rowB l, .p)
def cnat (x : CV) : Res Nat := match x with
  | .i _ n => natOf n
  | _ => .no (.n 80)
def anat (v : AV) : Res Nat := v.cv.bind cnat
def loadT (P : Program) (t : Nat) (M : Mem) (x : CV) : Res AV := match x with
  | .p b o => (tyU P t).bind fun d => Bool.rec (motive := fun _ => Res AV) ((ld M b o).bind fun v => .ok (.c v)) ((tyI P t).bind fun i => (ldN M b o i.size).bind fun l => .ok (.g l)) (aggD d)
  | _ => .no (.n 81)
def storeT (P : Program) (t : Nat) (M : Mem) (x : CV) (v : AV) : Res Mem := match x with
  | .p b o => v.cells.bind fun l => (tyI P t).bind fun i => guardR 82 (Nat.beq l.length i.size) (stN M b o l)
  | _ => .no (.n 83)
def nilCk (v : AV) : Res AV := v.cv.bind fun x => match x with
  | .p b o => .ok (.c (.p b o))
  | .f f l => .ok (.c (.f f l))
  | _ => .no (.n 84)
def capOf (v : AV) : Res (Nat × Nat) := v.cv.bind fun x => match x with
  | .p b o => .ok (b, o)
  | _ => .no (.n 85)
def mkFn (ρ : Operand → Res AV) (fn : Fn) (first captured : Array Operand) : Res AV := match fn with
  | .func f => guardR 86 first.toList.isEmpty ((mapR (fun o => (ρ o).bind capOf) captured.toList).bind fun l => .ok (.c (.f f l)))
  | _ => .no (.n 87)
def two48 : Nat := 281474976710656
def i64max : Nat := 9223372036854775807
def mkSl (P : Program) (t l c : Nat) : Res NewT := (tyU P t).bind fun d => match d with
  | .slice e => (tyI P e).bind fun i => (zeros P e).bind fun z => guardR 90 (Nat.beq z.length i.size) (guardR 90 (Nat.ble 1 i.size) (guardR 91 (Nat.ble l c) (guardR 92 (Nat.ble c i64max) (guardR 93 (Nat.ble (Nat.mul i.bytes c) two48) (.ok (rowB (repL z c), .s l c i.size))))))
  | _ => .no (.n 94)
/-- A slice of a slice from l to h, up to m. -/
def cut3 (b o : Nat) (sz l h m : Nat) : CV := .s b (Bool.rec (motive := fun _ => Nat) (Nat.add o (Nat.mul l sz)) o (Nat.beq m l)) (Nat.sub h l) (Nat.sub m l) true sz
def cutO (b o cap sz l h : Nat) : CV := Bool.rec (motive := fun _ => CV) (.s b (Nat.add o (Nat.mul l sz)) (Nat.sub h l) (Nat.sub cap l) false sz) .se (Nat.ble cap l)
def cutS (x : CV) (lo hi mx : Option Nat) : Res CV := match x with
  | .sz => (match lo, hi, mx with
    | none, none, none => .ok .sz
    | some l, none, none => guardR 100 (Nat.beq l 0) (.ok .sz)
    | none, some h, none => guardR 101 (Nat.beq h 0) (.ok .sz)
    | some l, some h, none => guardR 101 (Nat.beq h 0) (guardR 101 (Nat.beq l 0) (.ok .sz))
    | _, _, _ => .no (.n 102))
  | .s b o len cap ex sz => (match mx with
    | some m => (match hi with
      | some h => guardR 103 (Nat.ble m cap) (guardR 103 (Nat.ble h m) (guardR 103 (Nat.ble (lo.getD 0) h) (.ok (cut3 b o sz (lo.getD 0) h m))))
      | none => .no (.n 104))
    | none => guardR 105 (Nat.ble (hi.getD len) cap) (guardR 105 (Nat.ble (lo.getD 0) (hi.getD len)) (.ok (Bool.rec (motive := fun _ => CV) (cutO b o cap sz (lo.getD 0) (hi.getD len)) (cut3 b o sz (lo.getD 0) (hi.getD len) cap) ex))))
  | .se => (match mx with
    | none => guardR 106 (Nat.beq (lo.getD 0) 0) (guardR 106 (Nat.beq (hi.getD 0) 0) (.ok .se))
    | some _ => .no (.n 106))
  | _ => .no (.n 106)
def optR (ρ : Operand → Res AV) (o : Option Operand) : Res (Option Nat) := match o with
  | none => .ok none
  | some x => (ρ x).bind fun v => (anat v).bind fun n => .ok (some n)
def szOk (x : CV) (n : Nat) : Bool := match x with
  | .s _ _ _ _ _ sz => Nat.beq sz n
  | _ => true
def cutA (P : Program) (M : Mem) (t : Nat) (x : CV) (lo hi mx : Option Nat) : Res CV := (tyU P t).bind fun d => match d with
  | .slice e => (tyI P e).bind fun i => guardR 119 (szOk x i.size) (cutS x lo hi mx)
  | .array n e => (match x with
    | .p b o => (tyI P e).bind fun i => (ldN M b o (Nat.mul n i.size)).bind fun _ => guardR 107 (Nat.ble 1 (Nat.mul n i.size)) (guardR 107 (notB mx.isSome) (guardR 108 (Nat.ble (hi.getD n) n) (guardR 108 (Nat.ble (lo.getD 0) (hi.getD n)) (.ok (cut3 b o i.size (lo.getD 0) (hi.getD n) n)))))
    | _ => .no (.n 109))
  | _ => .no (.n 110)
def fieldA (P : Program) (t : Nat) (x : CV) (f : Nat) : Res CV := match x with
  | .p b o => (tyU P t).bind fun d => (match d with
    | .struct fs => (ofOpt 111 fs[f]?).bind fun fl => (tyI P fl.type).bind fun i => guardR 112 (Nat.ble 1 i.size) (.ok (.p b (Nat.add o fl.offset)))
    | _ => .no (.n 113))
  | _ => .no (.n 114)
def fieldV (P : Program) (t : Nat) (v : AV) (f : Nat) : Res AV := match v with
  | .g l => (tyU P t).bind fun d => (match d with
    | .struct fs => (ofOpt 115 fs[f]?).bind fun fl => (tyU P fl.type).bind fun fd => Bool.rec (motive := fun _ => Res AV) ((ofOpt 116 l[fl.offset]?).bind fun x => .ok (.c x)) ((tyI P fl.type).bind fun i => .ok (.g ((l.drop fl.offset).take i.size))) (aggD fd)
    | _ => .no (.n 117))
  | _ => .no (.n 118)
def indexA (P : Program) (t : Nat) (x : CV) (j : Nat) : Res CV := (tyU P t).bind fun d => match d with
  | .slice e => (match x with
    | .s b o len _ _ _ => guardR 120 (Nat.ble (Nat.succ j) len) ((tyI P e).bind fun i => .ok (.p b (Nat.add o (Nat.mul j i.size))))
    | _ => .no (.n 121))
  | .array n e => (match x with
    | .p b o => guardR 122 (Nat.ble (Nat.succ j) n) ((tyI P e).bind fun i => .ok (.p b (Nat.add o (Nat.mul j i.size))))
    | _ => .no (.n 123))
  | _ => .no (.n 124)
def extr (v : AV) (j : Nat) : Res AV := match v with
  | .t l => (ofOpt 125 l[j]?).bind fun x => .ok x.av
  | _ => .no (.n 126)
/- A map from numbers. -/
def findM (l : List (Nat × CV)) (n : Nat) : Option CV := List.rec (motive := fun _ => Option CV) none (fun p _ ih => Bool.rec (motive := fun _ => Option CV) ih (some p.2) (Nat.beq n p.1)) l
def setM (l : List (Nat × CV)) (n : Nat) (x : CV) : List (Nat × CV) := List.rec (motive := fun _ => List (Nat × CV)) [(n, x)] (fun p r ih => Bool.rec (motive := fun _ => List (Nat × CV)) (p :: ih) ((n, x) :: r) (Nat.beq n p.1)) l
def mapTy (P : Program) (t : Nat) : Res Nat := (tyU P t).bind fun d => match d with
  | .map k e => (tyU P k).bind fun kd => (match kd with
    | .int .i64 => .ok e
    | _ => .no (.n 130))
  | _ => .no (.n 131)
def key64 (x : CV) : Res Nat := match x with
  | .i .i64 n => natOf n
  | _ => .no (.n 132)
def zeroC (P : Program) (t : Nat) : Res CV := (tyI P t).bind fun i => (ofOpt 133 i.zero).bind ofC
def lookR (v : CV) (found ok : Bool) : AV := Bool.rec (motive := fun _ => AV) (.c v) (.t [.c v, .c (.b found)]) ok
def lookA (P : Program) (M : Mem) (t : Nat) (x k : CV) (ok : Bool) : Res AV := match x with
  | .m b => (mapTy P t).bind fun e => (key64 k).bind fun n => (mapOf M b).bind fun l => match findM l n with
    | some v => .ok (lookR v true ok)
    | none => (zeroC P e).bind fun v => .ok (lookR v false ok)
  | _ => .no (.n 134)
def updA (P : Program) (M : Mem) (t : Nat) (x k v : CV) : Res Mem := match x with
  | .m b => (mapTy P t).bind fun _ => (key64 k).bind fun n => (mapOf M b).bind fun l => .ok ⟨M.bl.set (.mp (setM l n v)) b, M.nx⟩
  | _ => .no (.n 135)

/- append, copy, clear, len. -/
def srcOf (M : Mem) (x : CV) (sz : Nat) : Res (Nat × List CV) := match x with
  | .sz => .ok (0, [])
  | .se => .ok (0, [])
  | .s b o len _ _ _ => (ldN M b o (Nat.mul len sz)).bind fun l => .ok (len, l)
  | _ => .no (.n 140)
def two47 : Nat := 140737488355328
/-- Behind a row that has no room. -/
def grow (M : Mem) (b : Option Nat) (old news : List CV) (n sz : Nat) : Res (AV × Mem) :=
  okM (.s M.nx 0 n n false sz) (addB (Option.rec (motive := fun _ => Mem) M (fun b => ⟨M.bl.del b, M.nx⟩) b) (rowB (old ++ news)))
def appS (M : Mem) (bytes sz : Nat) (s : CV) (n : Nat) (news : List CV) : Res (AV × Mem) := match s with
  | .sz => Nat.rec (motive := fun _ => Res (AV × Mem)) (okM .sz M) (fun _ _ => guardR 141 (Nat.ble (Nat.mul n bytes) two47) (guardR 141 (Nat.ble n i64max) (grow M none [] news n sz))) n
  | .s b o len cap ex sz' => guardR 142 (Nat.beq sz sz') (guardR 142 (Nat.ble (Nat.mul (Nat.add len n) bytes) two47) (guardR 142 (Nat.ble (Nat.add len n) i64max) (
      Bool.rec (motive := fun _ => Res (AV × Mem))
        (Nat.rec (motive := fun _ => Res (AV × Mem)) (.no (.n 143)) (fun _ _ => (ldN M b o (Nat.mul len sz)).bind fun old => grow M (Bool.rec (motive := fun _ => Option Nat) (some b) none ex) old news (Nat.add len n) sz) n)
        ((stN M b (Nat.add o (Nat.mul len sz)) news).bind fun M => okM (.s b o (Nat.add len n) cap ex sz) M)
        (Nat.ble (Nat.add len n) cap))))
  | _ => .no (.n 144)
def appA (P : Program) (M : Mem) (t : Nat) (s x : CV) : Res (AV × Mem) := (tyU P t).bind fun d => match d with
  | .slice e => (tyI P e).bind fun i => guardR 145 (Nat.ble 1 i.size) ((zeros P e).bind fun z => guardR 145 (Nat.beq z.length i.size) ((srcOf M x i.size).bind fun q => appS M i.bytes i.size s q.1 q.2))
  | _ => .no (.n 146)
def lenC (x : CV) : Res Nat := match x with
  | .sz => .ok 0
  | .se => .ok 0
  | .s _ _ n _ _ _ => .ok n
  | _ => .no (.n 147)
def i64 (n : Nat) : CV := .i .i64 (.ofNat n)
def minN (a b : Nat) : Nat := Bool.rec (motive := fun _ => Nat) b a (Nat.ble a b)
def copyA (P : Program) (M : Mem) (t : Nat) (d s : CV) : Res (AV × Mem) := (tyU P t).bind fun ty => match ty with
  | .slice e => (tyI P e).bind fun i => (lenC d).bind fun n => (lenC s).bind fun m => (match s with
    | .s b o _ _ _ _ => (ldN M b o (Nat.mul (minN m n) i.size)).bind fun l => (match d with
      | .s b' o' _ _ _ _ => (stN M b' o' l).bind fun M => okM (i64 (minN m n)) M
      | .sz => okM (i64 0) M
      | _ => .no (.n 148))
    | _ => okM (i64 0) M)
  | _ => .no (.n 149)
def clearA (P : Program) (M : Mem) (t : Nat) (x : CV) : Res (AV × Mem) := (tyU P t).bind fun ty => match ty with
  | .slice e => (match x with
    | .sz => .ok (undA, M)
    | .se => .ok (undA, M)
    | .s b o n _ _ _ => (zeros P e).bind fun z => Nat.rec (motive := fun _ => Res (AV × Mem)) (.ok (undA, M)) (fun _ _ => (stN M b o (repL z n)).bind fun M => .ok (undA, M)) n
    | _ => .no (.n 150))
  | _ => .no (.n 151)
def lenA (P : Program) (t : Nat) (x : CV) : Res CV := (tyU P t).bind fun d => guardR 152 (slTy d) ((lenC x).bind fun n => .ok (i64 n))
def maxA (F : Facts) (mx : Bool) (x y : CV) : Res CV := match x, y with
  | .i k a, .i k' b => guardR 153 (decK k k') (.ok (.i k (Bool.rec (motive := fun _ => Int) (Bool.rec (motive := fun _ => Int) b a (ile a b)) (Bool.rec (motive := fun _ => Int) a b (ile a b)) mx)))
  | x, y => (kindOf x).bind fun k => (kindOf y).bind fun k' => guardR 154 (decK k k') ((geS F x y (.ofNat 0)).bind fun g => .ok (Bool.rec (motive := fun _ => CV) (Bool.rec (motive := fun _ => CV) x y mx) (Bool.rec (motive := fun _ => CV) y x mx) g))
def biA (P : Program) (F : Facts) (M : Mem) (b : Builtin) (ts : Array TypeId) (as : List AV) : Res (AV × Mem) := match as with
  | [x] => (match b with
    | .len => x.cv.bind fun x => (ofOpt 155 ts[0]?).bind fun t => (lenA P t x).bind fun v => okM v M
    | .clear => x.cv.bind fun x => (ofOpt 155 ts[0]?).bind fun t => clearA P M t x
    | _ => .no (.n 156))
  | [x, y] => x.cv.bind fun x => y.cv.bind fun y => (match b with
    | .append => (ofOpt 155 ts[0]?).bind fun t => (ofOpt 155 ts[1]?).bind fun t' => guardR 157 (Nat.beq t t') (appA P M t x y)
    | .copy => (ofOpt 155 ts[0]?).bind fun t => copyA P M t x y
    | .max => (maxA F true x y).bind fun v => okM v M
    | .min => (maxA F false x y).bind fun v => okM v M
    | _ => .no (.n 158))
  | _ => .no (.n 159)

/- Calls of functions. -/
abbrev CallT := Nat → List AV → Mem → Res (AV × Mem)
def ptrs (l : List (Nat × Nat)) : List AV := l.map fun p => .c (.p p.1 p.2)
def argsR (ρ : Operand → Res AV) (l : Array Operand) : Res (List AV) := mapR ρ l.toList
def callA (P : Program) (F : Facts) (cl : CallT) (ρ : Operand → Res AV) (c : Call) (M : Mem) : Res (AV × Mem) := match c.callee with
  | .value f => (ρ f).bind fun v => v.cv.bind fun x => (match x with
    | .f f caps => (argsR ρ c.args).bind fun as => cl f (as ++ ptrs caps) M
    | _ => .no (.n 160))
  | .builtin b => (argsR ρ c.args).bind fun as => biA P F M b c.argTypes as
  | .invoke _ _ => .no (.n 161)

def pureR (M : Mem) (r : Res AV) : Res (AV × Mem) := r.bind fun v => .ok (v, M)
def pureC (M : Mem) (r : Res CV) : Res (AV × Mem) := r.bind fun v => .ok (.c v, M)
def memR (r : Res Mem) : Res (AV × Mem) := r.bind fun M => .ok (undA, M)
def pickA (ρ : Operand → Res AV) (c a b : Operand) : Res AV := (ρ c).bind fun v => v.bool.bind fun t => Bool.rec (motive := fun _ => Res AV) (ρ b) (ρ a) t
def resvA (P : Program) (ρ : Operand → Res AV) (t : Nat) (r : Option Operand) : Res Unit := match r with
  | none => .ok ()
  | some x => (ρ x).bind fun v => (anat v).bind fun _ => (mapTy P t).bind fun _ => .ok ()
/-- An operation that makes a block. -/
def newA (P : Program) (ρ : Operand → Res AV) (o : Op) : Res NewT := match o with
  | .alloc t => allocA P t
  | .box _ x => (ρ x).bind boxA
  | .buildSlice t n ps => buildSl P ρ t n ps
  | .makeMap t r => (resvA P ρ t r).bind fun _ => .ok (.mp [], .m)
  | .makeSlice t l c => (ρ l).bind fun l => (anat l).bind fun l => (ρ c).bind fun c => (anat c).bind fun c => mkSl P t l c
  | _ => .no (.n 169)
def newO (M : Mem) (r : Res NewT) : Res (AV × Mem) := r.bind fun q => okM (q.2.at M.nx) (addB M q.1)
/-- One operation. -/
def opA (P : Program) (F : Facts) (cl : CallT) (ρ : Operand → Res AV) (o : Op) (M : Mem) : Res (AV × Mem) := match o with
  | .move x => pureR M (ρ x)
  | .assign x => pureR M (ρ x)
  | .pick c a b => pureR M (pickA ρ c a b)
  | .alloc t => newO M (newA P ρ (.alloc t))
  | .box t x => newO M (newA P ρ (.box t x))
  | .build t ps => pureR M (buildA P ρ t ps)
  | .buildSlice t n ps => newO M (newA P ρ (.buildSlice t n ps))
  | .load t a => (ρ a).bind fun v => v.cv.bind fun x => pureR M (loadT P t M x)
  | .store t a v => (ρ a).bind fun x => x.cv.bind fun x => (ρ v).bind fun v => memR (storeT P t M x v)
  | .nilCheck x => (ρ x).bind fun v => pureR M (nilCk v)
  | .binOp op t x y _ => (ρ x).bind fun x => x.cv.bind fun x => (ρ y).bind fun y => y.cv.bind fun y => pureC M (binC P F op t x y)
  | .unOp op _ x => (ρ x).bind fun x => x.cv.bind fun x => pureC M (unS F op x)
  | .convert s d x => (ρ x).bind fun x => x.cv.bind fun x => pureC M (convC P F M s d x)
  | .makeFunc fn first captured => pureR M (mkFn ρ fn first captured)
  | .makeMap t r => newO M (newA P ρ (.makeMap t r))
  | .makeSlice t l c => newO M (newA P ρ (.makeSlice t l c))
  | .slice t x lo hi mx => (ρ x).bind fun x => x.cv.bind fun x => (optR ρ lo).bind fun lo => (optR ρ hi).bind fun hi => (optR ρ mx).bind fun mx => pureC M (cutA P M t x lo hi mx)
  | .fieldAddr t x f => (ρ x).bind fun x => x.cv.bind fun x => pureC M (fieldA P t x f)
  | .field t x f => (ρ x).bind fun x => pureR M (fieldV P t x f)
  | .indexAddr t x j => (ρ x).bind fun x => x.cv.bind fun x => (ρ j).bind fun j => (anat j).bind fun j => pureC M (indexA P t x j)
  | .lookup t x k ok => (ρ x).bind fun x => x.cv.bind fun x => (ρ k).bind fun k => k.cv.bind fun k => pureR M (lookA P M t x k ok)
  | .mapUpdate t m k v => (ρ m).bind fun m => m.cv.bind fun m => (ρ k).bind fun k => k.cv.bind fun k => (ρ v).bind fun v => v.cv.bind fun v => memR (updA P M t m k v)
  | .extract x j => (ρ x).bind fun x => pureR M (extr x j)
  | .call c => callA P F cl ρ c M
  | _ => .no (.n 170)
end
end Go.Proofs.YtbmhamijoajnhaaGreat.E
