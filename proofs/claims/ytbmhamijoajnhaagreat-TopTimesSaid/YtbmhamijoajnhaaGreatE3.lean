/- The machine of plain values: frames, regions whose order is drawn, calls by depth. Nothing of the program. -/
import Derived.Test.YtbmhamijoajnhaaGreatE2
namespace Go.Proofs.YtbmhamijoajnhaaGreat.E
open Go
noncomputable section

/- Is an operation wanted? -/
def yieldA (t : PT AV) (ops : Array Oper) (j : Nat) : Res (Option Bool) :=
  Option.rec (motive := fun _ => Res (Option Bool)) (.ok none) (fun d => (ofOpt 200 (t.get d)).bind fun v => match v with
    | .c (.b y) => .ok (some y)
    | .t [] => .ok none
    | _ => .no (.n 201)) ((ops[j]?).bind (·.dst))
def beqO (o : Option Bool) (w : Bool) : Bool := Option.rec (motive := fun _ => Bool) false (fun b => beqB b w) o
def wantA (t : PT AV) (ops : Array Oper) (o : Oper) : Res Bool :=
  Option.rec (motive := fun _ => Res Bool) (.ok true) (fun g => (yieldA t ops g.1).bind fun y => .ok (beqO y g.2)) o.guard
def putT (nt : Nat) (t : PT AV) (dst : Option Nat) (v : AV) : Res (PT AV) :=
  Option.rec (motive := fun _ => Res (PT AV)) (.ok t) (fun d => guardR 202 (Nat.ble (Nat.succ d) nt) (.ok (t.set v d))) dst
abbrev TM := PT AV × Mem
def frcT {β : Type} (t : PT AV) (k : PT AV → β) : β := PT.rec (motive := fun _ => β) (k .lf) (fun l v r _ _ => k (.nd l v r)) t
def stepO (P : Program) (F : Facts) (cl : CallT) (nt : Nat) (o : Oper) (t : PT AV) (M : Mem) (k : PT AV → Mem → Res TM) : Res TM :=
  (opA P F cl (evO t) o.op M).bind fun r => frc r.1 fun v => frcM r.2 fun M => (putT nt t o.dst v).bind fun t => frcT t fun t => k t M
/-- A region whose order is that of its text. -/
def opsA (P : Program) (F : Facts) (cl : CallT) (nt : Nat) (ops : Array Oper) (l : List Oper) : PT AV → Mem → Res TM :=
  List.rec (motive := fun _ => PT AV → Mem → Res TM) (fun t M => .ok (t, M))
    (fun o _ ih t M => (wantA t ops o).bind fun w => Bool.rec (motive := fun _ => Res TM) ((putT nt t o.dst undA).bind fun t => ih t M) (stepO P F cl nt o t M ih) w) l

/- A region whose order is drawn. -/
inductive OK where
  | pure
  | load
  | new
  | heavy
def kindO (o : Op) : OK := match o with
  | .alloc _ | .box _ _ | .buildSlice _ _ _ | .makeMap _ _ | .makeSlice _ _ _ => .new
  | .load _ _ | .lookup _ _ _ _ => .load
  | .store _ _ _ | .mapUpdate _ _ _ _ => .heavy
  | .convert _ _ _ => .load
  | .slice _ _ _ _ _ => .load
  | .call { callee := .builtin .len, .. } => .pure
  | .call { callee := .builtin .max, .. } => .pure
  | .call { callee := .builtin .min, .. } => .pure
  | .call _ => .heavy
  | _ => .pure
def isHv (o : Op) : Bool := match kindO o with
  | .heavy => true
  | _ => false
def opAt (ops : Array Oper) (i : Nat) : Res Oper := ofOpt 210 ops[i]?
def bindsA (e : Edge) : Bool := Region.binds .any e
/-- Which stand ahead of an operation: a number's bits. -/
def maskO (bm : List Nat) (o : Oper) : Nat := o.after.toList.foldr (fun e s => Bool.rec (motive := fun _ => Nat) s (Nat.lor (Nat.lor s (Nat.pow 2 e.on)) (bm.getD e.on 0)) (bindsA e)) 0
def masks (ops : Array Oper) : List Nat := ops.toList.foldl (fun bm o => bm ++ [maskO bm o]) []
def bitT (m i : Nat) : Bool := Nat.beq (Nat.mod (Nat.div m (Nat.pow 2 i)) 2) 1
def subM (a b : Nat) : Bool := Nat.beq (Nat.land a b) a
def rdy (ops : Array Oper) (bm : List Nat) (done : Nat) (hv : Bool) (i : Nat) : Bool :=
  !(bitT done i) && subM (bm.getD i 0) done && (match ops[i]? with
    | some o => beqB (isHv o.op) hv
    | none => false)
/-- The order: what is not heavy first. -/
def eagerF (ops : Array Oper) (bm : List Nat) : Nat → Nat → List Nat
  | 0, _ => []
  | f + 1, done => match (List.range ops.size).find? (rdy ops bm done false) with
    | some i => i :: eagerF ops bm f (Nat.lor done (Nat.pow 2 i))
    | none => match (List.range ops.size).find? (rdy ops bm done true) with
      | some i => i :: eagerF ops bm f (Nat.lor done (Nat.pow 2 i))
      | none => []
def eager (ops : Array Oper) (bm : List Nat) : List Nat := eagerF ops bm ops.size 0
def looksO (ops : Array Oper) (o : Oper) : List Nat := o.looksAt ops
/-- Who writes what another one looks at stands in an order to it; no two write one. -/
def tidy2 (ops : Array Oper) (bm : List Nat) (i j : Nat) (oi oj : Oper) : Bool :=
  Nat.beq i j || (match oj.dst with
    | some d => !(oi.dst == some d) && (!((looksO ops oi).contains d) || bitT (bm.getD i 0) j || bitT (bm.getD j 0) i)
    | none => true)
def tidy (ops : Array Oper) (bm : List Nat) : Bool :=
  (List.range ops.size).all fun i => (List.range ops.size).all fun j => match ops[i]?, ops[j]? with
    | some oi, some oj => tidy2 ops bm i j oi oj
    | _, _ => false
def edgesOk (ops : Array Oper) (bm : List Nat) : Bool :=
  (List.range ops.size).all fun i => match ops[i]? with
    | some o => Nat.beq (bm.getD i 0) (maskO bm o) && o.after.toList.all (fun e => !(bindsA e) || Nat.ble (Nat.succ e.on) i)
    | none => false
def orderOk (ops : Array Oper) (es : List Nat) : Bool :=
  Nat.beq es.length ops.size && (List.range ops.size).all fun i => es.contains i
/-- Each behind what stands ahead of it. -/
def validE (bm : List Nat) : List Nat → List Nat → Bool
  | [], _ => true
  | i :: r, done => !(done.contains i) && (List.range i).all (fun j => !(bitT (bm.getD i 0) j) || done.contains j) && validE bm r (i :: done)
/-- Each behind the last heavy one. -/
def lastE (ops : Array Oper) (bm : List Nat) : List Nat → Option Nat → Bool
  | [], _ => true
  | i :: r, last => (match last with
      | some h => bitT (bm.getD i 0) h
      | none => true) && (match ops[i]? with
      | some o => lastE ops bm r (if isHv o.op then some i else last)
      | none => false)
def staticOk (ops : Array Oper) (bm : List Nat) (es : List Nat) : Bool :=
  tidy ops bm && edgesOk ops bm && orderOk ops es && validE bm es [] && lastE ops bm es none
inductive Pend where
  | ld (i : Nat) (o : Oper) (v : AV) (t : PT AV)
  | nw (i : Nat) (b : Nat) (blk : Blk)
def beqK (a b : IntKind) : Bool := decide (a = b)
def beqPs (l : List (Nat × Nat)) : List (Nat × Nat) → Bool :=
  List.rec (motive := fun _ => List (Nat × Nat) → Bool) (fun r => List.rec (motive := fun _ => Bool) true (fun _ _ _ => false) r) (fun a _ ih r => List.rec (motive := fun _ => Bool) false (fun b r _ => Nat.beq a.1 b.1 && Nat.beq a.2 b.2 && ih r) r) l
def beqXs (l : List (Nat × Int)) : List (Nat × Int) → Bool :=
  List.rec (motive := fun _ => List (Nat × Int) → Bool) (fun r => List.rec (motive := fun _ => Bool) true (fun _ _ _ => false) r) (fun a _ ih r => List.rec (motive := fun _ => Bool) false (fun b r _ => Nat.beq a.1 b.1 && ieq a.2 b.2 && ih r) r) l
def beqC (x y : CV) : Bool := match x, y with
  | .b a, .b b => beqB a b
  | .i k a, .i k' b => beqK k k' && ieq a b
  | .x k (.mk c xs), .x k' (.mk d ys) => beqK k k' && ieq c d && beqXs xs ys
  | .z, .z => true
  | .p a b, .p c d => Nat.beq a c && Nat.beq b d
  | .sz, .sz => true
  | .se, .se => true
  | .s b o l c ex sz, .s b' o' l' c' ex' sz' => Nat.beq b b' && Nat.beq o o' && Nat.beq l l' && Nat.beq c c' && beqB ex ex' && Nat.beq sz sz'
  | .nf, .nf => true
  | .f f l, .f g m => Nat.beq f g && beqPs l m
  | .mz, .mz => true
  | .m a, .m b => Nat.beq a b
  | .str a, .str b => beqL a b
  | _, _ => false
def beqCs (l : List CV) : List CV → Bool :=
  List.rec (motive := fun _ => List CV → Bool) (fun r => List.rec (motive := fun _ => Bool) true (fun _ _ _ => false) r) (fun a _ ih r => List.rec (motive := fun _ => Bool) false (fun b r _ => beqC a b && ih r) r) l
def beq2 (a b : V2) : Bool := match a, b with
  | .c x, .c y => beqC x y
  | .g l, .g m => beqCs l m
  | _, _ => false
def beq2s (l : List V2) : List V2 → Bool :=
  List.rec (motive := fun _ => List V2 → Bool) (fun r => List.rec (motive := fun _ => Bool) true (fun _ _ _ => false) r) (fun a _ ih r => List.rec (motive := fun _ => Bool) false (fun b r _ => beq2 a b && ih r) r) l
def beqA (a b : AV) : Bool := match a, b with
  | .c x, .c y => beqC x y
  | .g l, .g m => beqCs l m
  | .t l, .t m => beq2s l m
  | _, _ => false
def beqOC (a b : Option CV) : Bool := match a, b with
  | none, none => true
  | some x, some y => beqC x y
  | _, _ => false
def beqT (t : PT CV) : PT CV → Bool :=
  PT.rec (motive := fun _ => PT CV → Bool) (fun u => PT.rec (motive := fun _ => Bool) true (fun _ _ _ _ _ => false) u) (fun _ v _ bl br u => PT.rec (motive := fun _ => Bool) false (fun l w r _ _ => beqOC v w && bl l && br r) u) t
def beqM (l : List (Nat × CV)) : List (Nat × CV) → Bool :=
  List.rec (motive := fun _ => List (Nat × CV) → Bool) (fun r => List.rec (motive := fun _ => Bool) true (fun _ _ _ => false) r) (fun a _ ih r => List.rec (motive := fun _ => Bool) false (fun b r _ => Nat.beq a.1 b.1 && beqC a.2 b.2 && ih r) r) l
def beqBlk (a b : Blk) : Bool := match a, b with
  | .cl c, .cl d => beqT c d
  | .mp l, .mp m => beqM l m
  | _, _ => false
def resV (r : Res (AV × Mem)) (v : AV) : Bool := Res.rec (motive := fun _ => Bool) (fun q => beqA q.1 v) (fun _ => false) r
def chk1 (P : Program) (F : Facts) (cl : CallT) (M : Mem) (p : Pend) : Bool := match p with
  | .ld _ o v t => resV (opA P F cl (evO t) o.op M) v
  | .nw _ b blk => Option.rec (motive := fun _ => Bool) false (fun x => beqBlk x blk) (M.bl.get b)
def chkAll (P : Program) (F : Facts) (cl : CallT) (M : Mem) (ps : List Pend) : Bool :=
  List.rec (motive := fun _ => Bool) true (fun p _ ih => Bool.rec (motive := fun _ => Bool) false ih (chk1 P F cl M p)) ps
def Pend.i (p : Pend) : Nat := match p with
  | .ld i _ _ _ => i
  | .nw i _ _ => i
def pendOf (i : Nat) (o : Oper) (v : AV) (t : PT AV) (M M' : Mem) (ps : List Pend) : Res (List Pend) := match kindO o.op with
  | .load => .ok (.ld i o v t :: ps)
  | .new => (ofOpt 220 (M'.bl.get M.nx)).bind fun blk => .ok (.nw i M.nx blk :: ps)
  | _ => .ok ps
/-- Behind a heavy operation: what stood ahead of it is done. -/
def drop1 (mask : Nat) (ps : List Pend) : List Pend := ps.filter fun p => !(bitT mask p.i)
structure DS where
  t : PT AV
  M : Mem
  ps : List Pend
def putU (nt : Nat) (o : Oper) (s : DS) (ps : List Pend) (k : DS → Res TM) : Res TM := (putT nt s.t o.dst undA).bind fun t => k ⟨t, s.M, ps⟩
def runO (P : Program) (F : Facts) (cl : CallT) (nt : Nat) (o : Oper) (s : DS) (ps : AV → Mem → Res (List Pend)) (k : DS → Res TM) : Res TM :=
  (opA P F cl (evO s.t) o.op s.M).bind fun r => frc r.1 fun v => frcM r.2 fun M => guardR 225 (Nat.ble s.M.nx M.nx) <| (ps v M).bind fun ps => (putT nt s.t o.dst v).bind fun t => frcT t fun t => k ⟨t, M, ps⟩
def hvA (P : Program) (F : Facts) (cl : CallT) (nt : Nat) (bm : List Nat) (i : Nat) (o : Oper) (s : DS) (w : Bool) (k : DS → Res TM) : Res TM :=
  guardR 221 (chkAll P F cl s.M s.ps) (Bool.rec (motive := fun _ => Res TM) (putU nt o s (drop1 (bm.getD i 0) s.ps) k) (runO P F cl nt o s (fun _ _ => .ok (drop1 (bm.getD i 0) s.ps)) k) w)
def ltA (P : Program) (F : Facts) (cl : CallT) (nt : Nat) (i : Nat) (o : Oper) (s : DS) (w : Bool) (k : DS → Res TM) : Res TM :=
  Bool.rec (motive := fun _ => Res TM) (putU nt o s s.ps k) (runO P F cl nt o s (fun v M => pendOf i o v s.t s.M M s.ps) k) w
def drawA (P : Program) (F : Facts) (cl : CallT) (nt : Nat) (ops : Array Oper) (bm : List Nat) (es : List Nat) : DS → Res TM :=
  List.rec (motive := fun _ => DS → Res TM) (fun s => guardR 223 (chkAll P F cl s.M s.ps) (.ok (s.t, s.M)))
    (fun i _ ih s => (opAt ops i).bind fun o => (wantA s.t ops o).bind fun w => Bool.rec (motive := fun _ => Res TM) (ltA P F cl nt i o s w ih) (hvA P F cl nt bm i o s w ih) (isHv o.op)) es
def drawR (P : Program) (F : Facts) (cl : CallT) (nt : Nat) (ops : Array Oper) (t : PT AV) (M : Mem) : Res TM :=
  guardR 224 (staticOk ops (masks ops) (eager ops (masks ops))) (drawA P F cl nt ops (masks ops) (eager ops (masks ops)) ⟨t, M, []⟩)

/- A frame. -/
inductive St where
  | go (k : List Item) (t : PT AV) (M : Mem)
  | ret (t : PT AV) (M : Mem)
  | bad (w : Why)
def Res.st {α : Type} (r : Res α) (f : α → St) : St := Res.rec (motive := fun _ => St) f (fun w => .bad w) r
def regA (P : Program) (F : Facts) (cl : CallT) (nt : Nat) (k : List Item) (t : PT AV) (M : Mem) (ops : Array Oper) (dr : Bool) : St :=
  (Bool.rec (motive := fun _ => Res TM) (opsA P F cl nt ops ops.toList t M) (drawR P F cl nt ops t M) dr).st fun r => .go k r.1 r.2
def condA (k : List Item) (t : PT AV) (M : Mem) (c : Operand) (a b : Code) : St :=
  ((evO t c).bind AV.bool).st fun y => .go (.code (Bool.rec (motive := fun _ => Code) b a y) :: k) t M
def exitA (k : List Item) (t : PT AV) (M : Mem) (id : Nat) : St := (ofOpt 230 (exitTo id k)).st fun k => .go k t M
def codeA (P : Program) (F : Facts) (cl : CallT) (nt : Nat) (k : List Item) (t : PT AV) (M : Mem) (c : Code) : St := match c with
  | .skip => .go k t M
  | .region _ ops dr => regA P F cl nt k t M ops dr
  | .seq a b => .go (.code a :: .code b :: k) t M
  | .cond c a b => condA k t M c a b
  | .block id c => .go (.code c :: .inBlock id :: k) t M
  | .loop c => .go (.code c :: .inLoop c :: k) t M
  | .exit id => exitA k t M id
  | .label _ => .go k t M
  | .ret => .ret t M
  | _ => .bad (.n 231)
def itemA (P : Program) (F : Facts) (cl : CallT) (nt : Nat) (k : List Item) (t : PT AV) (M : Mem) (i : Item) : St := match i with
  | .code c => codeA P F cl nt k t M c
  | .inBlock _ => .go k t M
  | .inLoop c => .go (.code c :: .inLoop c :: k) t M
  | _ => .bad (.n 232)
def goA (P : Program) (F : Facts) (cl : CallT) (nt : Nat) (k : List Item) (t : PT AV) (M : Mem) : St :=
  List.rec (motive := fun _ => St) (.ret t M) (fun i k _ => itemA P F cl nt k t M i) k
def stepA (P : Program) (F : Facts) (cl : CallT) (nt : Nat) (s : St) : St :=
  St.rec (motive := fun _ => St) (fun k t M => goA P F cl nt k t M) (fun t M => .ret t M) (fun w => .bad w) s
def nextS (ih : St → St) (s : St) : St := St.rec (motive := fun _ => St) (fun k t M => ih (.go k t M)) (fun t M => .ret t M) (fun w => .bad w) s
/-- 2 to the k steps. -/
def runF (P : Program) (F : Facts) (cl : CallT) (nt : Nat) (k : Nat) : St → St :=
  Nat.rec (motive := fun _ => St → St) (stepA P F cl nt) (fun _ ih s => nextS ih (ih s)) k

/- A call. -/
def resA (P : Program) (t : PT AV) (M : Mem) (r : ResultVar) : Res AV := match r with
  | .tmp n => ofOpt 240 (t.get n)
  | .cell a ty => (ofOpt 241 (t.get a)).bind fun v => v.cv.bind fun x => loadT P ty M x
def resultsA (P : Program) (fn : Func) (t : PT AV) (M : Mem) : Res AV := match fn.results.toList with
  | [r] => resA P t M r
  | rs => (mapR (fun r => (resA P t M r).bind AV.v2) rs).bind fun l => .ok (.t l)
def putArgs (l : List AV) : Nat → PT AV → PT AV :=
  List.rec (motive := fun _ => Nat → PT AV → PT AV) (fun _ t => t) (fun x _ ih n t => ih (Nat.succ n) (t.set x n)) l
def endA (P : Program) (fn : Func) (s : St) : Res (AV × Mem) :=
  St.rec (motive := fun _ => Res (AV × Mem)) (fun _ _ _ => .no (.n 242)) (fun t M => (resultsA P fn t M).bind fun v => frc v fun v => .ok (v, M)) (fun w => .no w) s
/-- An addition with carry, of plain numbers. -/
def add64A (as : List AV) : Res AV := match as with
  | [.c (.i .u64 a), .c (.i .u64 b), .c (.i .u64 c)] => (natOf a).bind fun x => (natOf b).bind fun y => (natOf c).bind fun z => guardR 243 (Nat.ble z 1) (
    .ok (.t [.c (.i .u64 (.ofNat (Nat.mod (Nat.add (Nat.add x y) z) 18446744073709551616))), .c (.i .u64 (.ofNat (Nat.div (Nat.add (Nat.add x y) z) 18446744073709551616)))]))
  | _ => .no (.n 243)
def K : Nat := 16
def bodyA (P : Program) (F : Facts) (cl : CallT) (f : Nat) (as : List AV) (M : Mem) : Res (AV × Mem) :=
  (ofOpt 244 P.funcs[f]?).bind fun fn => (ofOpt 245 fn.body).bind fun c => endA P fn (runF P F cl fn.ntmps K (.go [.code c] (putArgs as 0 .lf) M))
/-- Known answers of functions, by number: what a theorem says of them. -/
abbrev Known := List (Nat × AV)
def knownA (kn : Known) (f : Nat) : Option AV := List.rec (motive := fun _ => Option AV) none (fun p _ ih => Bool.rec (motive := fun _ => Option AV) ih (some p.2) (Nat.beq f p.1)) kn
def knownR (v : AV) (M : Mem) (as : List AV) : Res (AV × Mem) := match as with
  | [] => .ok (v, M)
  | _ => .no (.n 247)
def callD (P : Program) (F : Facts) (ad : Nat) (kn : Known) (d : Nat) : CallT :=
  Nat.rec (motive := fun _ => CallT) (fun _ _ _ => .no (.n 246))
    (fun _ ih f as M => Bool.rec (motive := fun _ => Res (AV × Mem)) (Option.rec (motive := fun _ => Res (AV × Mem)) (bodyA P F ih f as M) (fun v => knownR v M as) (knownA kn f)) ((add64A as).bind fun v => .ok (v, M)) (Nat.beq f ad)) d
def isTrue (r : Res (AV × Mem)) : Bool := match r with
  | .ok (.c (.b true), _) => true
  | _ => false
end
end Go.Proofs.YtbmhamijoajnhaaGreat.E
