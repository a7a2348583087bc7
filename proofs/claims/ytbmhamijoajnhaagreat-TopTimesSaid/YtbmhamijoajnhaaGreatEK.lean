/- The same reckoning, made quicker for the kernel: what hangs on the text alone is worked out once. Nothing of the program. -/
import Derived.Test.YtbmhamijoajnhaaGreatE3
namespace Go.Proofs.YtbmhamijoajnhaaGreat.E
open Go
noncomputable section
/-- Something worked out. -/
inductive Wr (α : Type) where
  | mk (f : α)
def Wr.out {α : Type} (w : Wr α) : α := match w with
  | .mk f => f
def Wr.bind {α β : Type} (w : Wr α) (f : α → Wr β) : Wr β := Wr.rec (motive := fun _ => Wr β) f w
/- A path, worked out. -/
def nvT (t : PT AV) : Option AV := PT.rec (motive := fun _ => Option AV) none (fun _ v _ _ _ => v) t
def lfT (t : PT AV) : PT AV := PT.rec (motive := fun _ => PT AV) .lf (fun l _ _ _ _ => l) t
def rtT (t : PT AV) : PT AV := PT.rec (motive := fun _ => PT AV) .lf (fun _ _ r _ _ => r) t
def getW (f : Nat) : Nat → Wr (PT AV → Option AV) :=
  Nat.rec (motive := fun _ => Nat → Wr (PT AV → Option AV)) (fun n => .mk fun t => t.get n) (fun _ ih n => Nat.rec (motive := fun _ => Wr (PT AV → Option AV)) (.mk nvT)
    (fun m _ => Bool.rec (motive := fun _ => Wr (PT AV → Option AV)) ((ih (Nat.div m 2)).bind fun g => .mk fun t => g (rtT t)) ((ih (Nat.div m 2)).bind fun g => .mk fun t => g (lfT t)) (Nat.beq (Nat.mod m 2) 0)) n) f
def onV (v : AV) (t : PT AV) : PT AV := PT.rec (motive := fun _ => PT AV) (.nd .lf (some v) .lf) (fun l _ r _ _ => .nd l (some v) r) t
def onL (f : PT AV → PT AV) (t : PT AV) : PT AV := PT.rec (motive := fun _ => PT AV) (.nd (f .lf) none .lf) (fun l v r _ _ => .nd (f l) v r) t
def onR (f : PT AV → PT AV) (t : PT AV) : PT AV := PT.rec (motive := fun _ => PT AV) (.nd .lf none (f .lf)) (fun l v r _ _ => .nd l v (f r)) t
def setW (f : Nat) : Nat → Wr (AV → PT AV → PT AV) :=
  Nat.rec (motive := fun _ => Nat → Wr (AV → PT AV → PT AV)) (fun n => .mk fun v t => t.set v n) (fun _ ih n => Nat.rec (motive := fun _ => Wr (AV → PT AV → PT AV)) (.mk onV)
    (fun m _ => Bool.rec (motive := fun _ => Wr (AV → PT AV → PT AV)) ((ih (Nat.div m 2)).bind fun g => .mk fun v t => onR (g v) t) ((ih (Nat.div m 2)).bind fun g => .mk fun v t => onL (g v) t) (Nat.beq (Nat.mod m 2) 0)) n) f
def ofO22 (o : Option AV) : Res AV := Option.rec (motive := fun _ => Res AV) (.no (.n 22)) (fun a => .ok a) o
def ofResW (r : Res AV) : Wr (PT AV → Res AV) := Res.rec (motive := fun _ => Wr (PT AV → Res AV)) (fun v => .mk fun _ => .ok v) (fun y => .mk fun _ => .no y) r
def evW (x : Operand) : Wr (PT AV → Res AV) := match x with
  | .tmp n => (getW 12 n).bind fun g => .mk fun t => ofO22 (g t)
  | .const v => ofResW (ofV v)
  | .func f => .mk fun _ => .ok (.c (.f f []))
  | .global _ => .mk fun _ => .no (.n 23)
/- Numbers. -/
inductive OptI where
  | i (k : IntKind) (n : Int)
  | no
def asI (x : CV) : OptI := CV.rec (motive := fun _ => OptI) (fun _ => .no) (fun k n => .i k n) (fun _ _ => .no) .no (fun _ _ => .no) .no (fun _ _ _ _ _ _ => .no) .no .no (fun _ _ => .no) .no (fun _ => .no) (fun _ => .no) x
def kN (k : IntKind) : Nat := IntKind.rec (motive := fun _ => Nat) 0 1 2 3 4 5 6 7 k
def kEq (a b : IntKind) : Bool := Nat.beq (kN a) (kN b)
abbrev CC := CV → CV → Res CV
def concW (op : BinOp) : Wr (IntKind → Int → Int → Res CV) := match op with
  | .add => .mk fun k a b => .ok (.i k (wrapK k (iadd a b)))
  | .sub => .mk fun k a b => .ok (.i k (wrapK k (iadd a (ineg b))))
  | .mul => .mk fun k a b => .ok (.i k (wrapK k (imul a b)))
  | .lss => .mk fun _ a b => .ok (.b (notB (ile b a)))
  | .leq => .mk fun _ a b => .ok (.b (ile a b))
  | .gtr => .mk fun _ a b => .ok (.b (notB (ile a b)))
  | .geq => .mk fun _ a b => .ok (.b (ile b a))
  | .eql => .mk fun _ a b => .ok (.b (ieq a b))
  | .neq => .mk fun _ a b => .ok (.b (notB (ieq a b)))
  | .or => .mk fun k a b => bitOp k a b Nat.lor
  | op => .mk fun k a b => concOp op k a b
def shW (op : BinOp) : Wr (IntKind → Int → Int → Res CV) := match op with
  | .shl => .mk fun k a b => (natOf b).bind fun n => guardR 40 (Nat.ble n (bitsK k)) (.ok (.i k (wrapK k (imul a (.ofNat (Nat.pow 2 n))))))
  | .shr => .mk fun k a b => (natOf b).bind fun n => guardR 40 (Nat.ble n (bitsK k)) (.ok (.i k (shrI a n)))
  | op => .mk fun k a b => shOp op k a b
def both (f : IntKind → Int → IntKind → Int → Res CV) (slow : CC) (x y : CV) : Res CV := OptI.rec (motive := fun _ => Res CV) (fun k a => OptI.rec (motive := fun _ => Res CV) (fun k' b => f k a k' b) (slow x y) (asI y)) (slow x y) (asI x)
def binW (P : Program) (F : Facts) (op : BinOp) (t : Nat) : Wr CC := Bool.rec (motive := fun _ => Wr CC)
  ((concW op).bind fun f => .mk (both (fun k a k' b => guardR 43 (kEq k k') (f k a b)) (binC P F op t)))
  ((shW op).bind fun f => .mk (both (fun k a _ b => f k a b) (binC P F op t))) (isSh op)
/-- A value and memory, the value made plain. -/
def plainC (M : Mem) (r : Res CV) : Res (AV × Mem) := Res.rec (motive := fun _ => Res (AV × Mem)) (fun v => frcC v fun v => .ok (.c v, M)) (fun y => .no y) r
def plainM (r : Res (AV × Mem)) : Res (AV × Mem) := Res.rec (motive := fun _ => Res (AV × Mem)) (fun q => Prod.rec (motive := fun _ => Res (AV × Mem)) (fun v M => frc v fun v => frcM M fun M => .ok (v, M)) q) (fun y => .no y) r
abbrev OpT := PT AV → Mem → Res (AV × Mem)
/-- One cell out of a temporary. -/
def cell1 (fx : PT AV → Res AV) (t : PT AV) (k : CV → Res (AV × Mem)) : Res (AV × Mem) := Res.rec (motive := fun _ => Res (AV × Mem)) (fun v => AV.rec (motive := fun _ => Res (AV × Mem)) k (fun _ => .no (.n 3)) (fun _ => .no (.n 4)) v) (fun y => .no y) (fx t)
def load1 (M : Mem) (x : CV) : Res AV := match x with
  | .p b o => (ld M b o).bind fun v => .ok (.c v)
  | _ => .no (.n 81)
def loadG (n : Nat) (M : Mem) (x : CV) : Res AV := match x with
  | .p b o => (ldN M b o n).bind fun l => .ok (.g l)
  | _ => .no (.n 81)
def loadW (P : Program) (t : Nat) : Wr (Mem → CV → Res AV) := Res.rec (motive := fun _ => Wr (Mem → CV → Res AV)) (fun d => Bool.rec (motive := fun _ => Wr (Mem → CV → Res AV)) (.mk load1)
    (Res.rec (motive := fun _ => Wr (Mem → CV → Res AV)) (fun i => .mk (loadG i.size)) (fun _ => .mk (loadT P t)) (tyI P t)) (aggD d)) (fun _ => .mk (loadT P t)) (tyU P t)
/-- An operation, worked out. -/
def opW (P : Program) (F : Facts) (cl : CallT) (o : Op) : Wr OpT := match o with
  | .move x => (evW x).bind fun f => .mk fun t M => (f t).bind fun v => .ok (v, M)
  | .assign x => (evW x).bind fun f => .mk fun t M => (f t).bind fun v => .ok (v, M)
  | .pick c a b => (evW c).bind fun fc => (evW a).bind fun fa => (evW b).bind fun fb => .mk fun t M => (fc t).bind fun v => v.bool.bind fun y => (Bool.rec (motive := fun _ => Res AV) (fb t) (fa t) y).bind fun v => .ok (v, M)
  | .binOp op ty x y _ => (evW x).bind fun fx => (evW y).bind fun fy => (binW P F op ty).bind fun g => .mk fun t M => cell1 fx t fun x => cell1 fy t fun y => plainC M (g x y)
  | .unOp op _ x => (evW x).bind fun fx => .mk fun t M => cell1 fx t fun x => plainC M (unS F op x)
  | .convert s d x => (evW x).bind fun fx => .mk fun t M => cell1 fx t fun x => plainC M (convC P F M s d x)
  | .load ty a => (evW a).bind fun fa => (loadW P ty).bind fun g => .mk fun t M => cell1 fa t fun x => (g M x).bind fun v => .ok (v, M)
  | .store ty a v => (evW a).bind fun fa => (evW v).bind fun fv => .mk fun t M => cell1 fa t fun x => (fv t).bind fun v => memR (storeT P ty M x v)
  | .fieldAddr ty x f => (evW x).bind fun fx => .mk fun t M => cell1 fx t fun x => plainC M (fieldA P ty x f)
  | .indexAddr ty x j => (evW x).bind fun fx => (evW j).bind fun fj => .mk fun t M => cell1 fx t fun x => (fj t).bind fun j => (anat j).bind fun j => plainC M (indexA P ty x j)
  | .nilCheck x => (evW x).bind fun fx => .mk fun t M => (fx t).bind fun v => pureR M (nilCk v)
  | .extract x j => (evW x).bind fun fx => .mk fun t M => (fx t).bind fun v => pureR M (extr v j)
  | o => .mk fun t M => plainM (opA P F cl (evO t) o M)
/- A region in the order of its text. -/
abbrev KT := PT AV → Mem → Res TM
def dstW (nt : Nat) (d : Option Nat) : Wr (PT AV → AV → (PT AV → Res TM) → Res TM) := Option.rec (motive := fun _ => Wr (PT AV → AV → (PT AV → Res TM) → Res TM)) (.mk fun t _ k => k t)
  (fun d => frcN d fun d => Bool.rec (motive := fun _ => Wr (PT AV → AV → (PT AV → Res TM) → Res TM)) (.mk fun _ _ _ => .no (.n 202)) ((setW 12 d).bind fun g => .mk fun t v k => frcT (g v t) k) (Nat.ble (Nat.succ d) nt)) d
def stepW (P : Program) (F : Facts) (cl : CallT) (nt : Nat) (ops : Array Oper) (o : Oper) : Wr (PT AV → Mem → KT → Res TM) :=
  (opW P F cl o.op).bind fun f => (dstW nt o.dst).bind fun g => Option.rec (motive := fun _ => Wr (PT AV → Mem → KT → Res TM))
    (.mk fun t M k => Res.rec (motive := fun _ => Res TM) (fun r => Prod.rec (motive := fun _ => Res TM) (fun v M => g t v fun t => k t M) r) (fun y => .no y) (f t M))
    (fun _ => .mk fun t M k => (wantA t ops o).bind fun w => Bool.rec (motive := fun _ => Res TM) (g t undA fun t => k t M) (Res.rec (motive := fun _ => Res TM) (fun r => Prod.rec (motive := fun _ => Res TM) (fun v M => g t v fun t => k t M) r) (fun y => .no y) (f t M)) w) o.guard
def opsW (P : Program) (F : Facts) (cl : CallT) (nt : Nat) (ops : Array Oper) (l : List Oper) : Wr KT :=
  List.rec (motive := fun _ => Wr KT) (.mk fun t M => .ok (t, M)) (fun o _ ih => (stepW P F cl nt ops o).bind fun f => ih.bind fun k => .mk fun t M => f t M k) l
/- Control. -/
def goR (k : List Item) (r : Res TM) : St := Res.rec (motive := fun _ => St) (fun q => Prod.rec (motive := fun _ => St) (fun t M => .go k t M) q) (fun w => .bad w) r
abbrev ST3 := List Item → PT AV → Mem → St
def codeW (P : Program) (F : Facts) (cl : CallT) (nt : Nat) (c : Code) : Wr ST3 := match c with
  | .skip => .mk fun k t M => .go k t M
  | .region _ ops dr => Bool.rec (motive := fun _ => Wr ST3) ((opsW P F cl nt ops ops.toList).bind fun f => .mk fun k t M => goR k (f t M)) (.mk fun k t M => (drawR P F cl nt ops t M).st fun r => .go k r.1 r.2) dr
  | .seq a b => .mk fun k t M => .go (.code a :: .code b :: k) t M
  | .cond c a b => (evW c).bind fun f => .mk fun k t M => ((f t).bind AV.bool).st fun y => .go (.code (Bool.rec (motive := fun _ => Code) b a y) :: k) t M
  | .block id c => .mk fun k t M => .go (.code c :: .inBlock id :: k) t M
  | .loop c => .mk fun k t M => .go (.code c :: .inLoop c :: k) t M
  | .exit id => .mk fun k t M => exitA k t M id
  | .label _ => .mk fun k t M => .go k t M
  | .ret => .mk fun _ t M => .ret t M
  | _ => .mk fun _ _ _ => .bad (.n 231)
def goW (P : Program) (F : Facts) (cl : CallT) (nt : Nat) (c : Code) (k : List Item) (t : PT AV) (M : Mem) : St := Wr.rec (motive := fun _ => St) (fun f => f k t M) (codeW P F cl nt c)
def itemW (P : Program) (F : Facts) (cl : CallT) (nt : Nat) (k : List Item) (t : PT AV) (M : Mem) (i : Item) : St := match i with
  | .code c => goW P F cl nt c k t M
  | .inBlock _ => .go k t M
  | .inLoop c => .go (.code c :: .inLoop c :: k) t M
  | _ => .bad (.n 232)
def stepX (P : Program) (F : Facts) (cl : CallT) (nt : Nat) (s : St) : St :=
  St.rec (motive := fun _ => St) (fun k t M => List.rec (motive := fun _ => St) (.ret t M) (fun i k _ => itemW P F cl nt k t M i) k) (fun t M => .ret t M) (fun w => .bad w) s
def runX (P : Program) (F : Facts) (cl : CallT) (nt : Nat) (k : Nat) : St → St :=
  Nat.rec (motive := fun _ => St → St) (stepX P F cl nt) (fun _ ih s => nextS ih (ih s)) k
def bodyX (P : Program) (F : Facts) (cl : CallT) (f : Nat) (as : List AV) (M : Mem) : Res (AV × Mem) :=
  (ofOpt 244 P.funcs[f]?).bind fun fn => (ofOpt 245 fn.body).bind fun c => endA P fn (runX P F cl fn.ntmps K (.go [.code c] (putArgs as 0 .lf) M))
def callX (P : Program) (F : Facts) (ad : Nat) (kn : Known) (d : Nat) : CallT :=
  Nat.rec (motive := fun _ => CallT) (fun _ _ _ => .no (.n 246))
    (fun _ ih f as M => Bool.rec (motive := fun _ => Res (AV × Mem)) (Option.rec (motive := fun _ => Res (AV × Mem)) (bodyX P F ih f as M) (fun v => knownR v M as) (knownA kn f)) ((add64A as).bind fun v => .ok (v, M)) (Nat.beq f ad)) d
end
end Go.Proofs.YtbmhamijoajnhaaGreat.E
