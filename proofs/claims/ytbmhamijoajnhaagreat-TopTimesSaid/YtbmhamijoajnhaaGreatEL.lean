/- The quicker reckoning comes to the same. Nothing of the program. -/
import Derived.Test.YtbmhamijoajnhaaGreatEJ
import Derived.Test.YtbmhamijoajnhaaGreatEK
namespace Go.Proofs.YtbmhamijoajnhaaGreat.E
open Go Go.RowKit
theorem wr_bind {α β : Type} (w : Wr α) (f : α → Wr β) : w.bind f = f w.out := by cases w; rfl
theorem out_mk {α : Type} (f : α) : (Wr.mk f).out = f := rfl
/- Paths. -/
theorem get_zero (t : PT AV) : t.get 0 = nvT t := by cases t <;> rfl
theorem get_succ (t : PT AV) (m : Nat) : t.get (m + 1) = if m % 2 = 0 then (lfT t).get (m / 2) else (rtT t).get (m / 2) := by
  cases t with
  | lf => show none = _; split <;> rfl
  | nd l v r => rw [get_nd, getN_succ]; rfl
theorem path_nil {α : Type} (x y : α) (m : Nat) : Bool.rec (motive := fun _ => α) x y (Nat.beq (Nat.mod m 2) 0) = if m % 2 = 0 then y else x := by
  by_cases h : m % 2 = 0
  · rw [if_pos h]; show Bool.rec (motive := fun _ => α) x y (Nat.beq (m % 2) 0) = _; rw [h]; rfl
  · rw [if_neg h]; show Bool.rec (motive := fun _ => α) x y (Nat.beq (m % 2) 0) = _; rw [beq_of_ne h]
theorem getW_eq : ∀ (f n : Nat) (t : PT AV), (getW f n).out t = t.get n
  | 0, n, t => rfl
  | f + 1, 0, t => (get_zero t).symm
  | f + 1, m + 1, t => by
    show (Bool.rec (motive := fun _ => Wr (PT AV → Option AV)) ((getW f (Nat.div m 2)).bind fun g => .mk fun t => g (rtT t)) ((getW f (Nat.div m 2)).bind fun g => .mk fun t => g (lfT t)) (Nat.beq (Nat.mod m 2) 0) : Wr (PT AV → Option AV)).out t = _
    rw [path_nil, get_succ]
    by_cases h : m % 2 = 0
    · rw [if_pos h, if_pos h, wr_bind]; exact getW_eq f (m / 2) (lfT t)
    · rw [if_neg h, if_neg h, wr_bind]; exact getW_eq f (m / 2) (rtT t)
theorem single_succ {α : Type} (x : α) (f m : Nat) : PT.single x (f + 1) (m + 1) = if m % 2 = 0 then .nd (PT.single x f (m / 2)) none .lf else .nd .lf none (PT.single x f (m / 2)) := path_nil (PT.nd .lf none (PT.single x f (m / 2))) (.nd (PT.single x f (m / 2)) none .lf) m
theorem single_any {α : Type} (x : α) : ∀ (f g n : Nat), n < f → n < g → PT.single x f n = PT.single x g n
  | f + 1, g + 1, 0, _, _ => rfl
  | f + 1, g + 1, m + 1, hf, hg => by
    rw [single_succ, single_succ, single_any x f g (m / 2) (by omega) (by omega)]
  | 0, _, n, h, _ => absurd h (Nat.not_lt_zero _)
  | _ + 1, 0, n, _, h => absurd h (Nat.not_lt_zero _)
theorem set_zero (t : PT AV) (v : AV) : t.set v 0 = onV v t := by cases t <;> rfl
theorem set_succ (t : PT AV) (v : AV) (m : Nat) : t.set v (m + 1) = if m % 2 = 0 then onL (fun l => l.set v (m / 2)) t else onR (fun r => r.set v (m / 2)) t := by
  cases t with
  | lf =>
    show PT.single v (m + 1 + 1) (m + 1) = _
    rw [single_succ]
    have e : PT.single v (m + 1) (m / 2) = (PT.lf : PT AV).set v (m / 2) := single_any v (m + 1) (m / 2 + 1) (m / 2) (by omega) (by omega)
    rw [e]; rfl
  | nd l w r => exact setN_succ (some v) l w r (l.set v) (r.set v) m
theorem setW_eq : ∀ (f n : Nat) (v : AV) (t : PT AV), (setW f n).out v t = t.set v n
  | 0, n, v, t => rfl
  | f + 1, 0, v, t => (set_zero t v).symm
  | f + 1, m + 1, v, t => by
    show (Bool.rec (motive := fun _ => Wr (AV → PT AV → PT AV)) ((setW f (Nat.div m 2)).bind fun g => .mk fun v t => onR (g v) t) ((setW f (Nat.div m 2)).bind fun g => .mk fun v t => onL (g v) t) (Nat.beq (Nat.mod m 2) 0) : Wr (AV → PT AV → PT AV)).out v t = _
    rw [path_nil, set_succ]
    by_cases h : m % 2 = 0
    · rw [if_pos h, if_pos h, wr_bind]
      show onL ((setW f (m / 2)).out v) t = _
      congr 1
      funext l
      exact setW_eq f (m / 2) v l
    · rw [if_neg h, if_neg h, wr_bind]
      show onR ((setW f (m / 2)).out v) t = _
      congr 1
      funext l
      exact setW_eq f (m / 2) v l
theorem evW_eq (x : Operand) (t : PT AV) : (evW x).out t = evO t x := by
  cases x with
  | tmp n =>
    show ((getW 12 n).bind fun g => (.mk fun t => ofO22 (g t) : Wr (PT AV → Res AV))).out t = _
    rw [wr_bind, out_mk, getW_eq]
    rfl
  | const v => show (ofResW (ofV v)).out t = ofV v; cases ofV v <;> rfl
  | func f => rfl
  | global g => rfl
theorem evW_fun (x : Operand) : (evW x).out = fun t => evO t x := funext (evW_eq x)
/- Numbers. -/
theorem kEq_eq (a b : IntKind) : kEq a b = decK a b := by cases a <;> cases b <;> rfl
theorem concW_eq (op : BinOp) : (concW op).out = concOp op := by cases op <;> rfl
theorem shW_eq (op : BinOp) : (shW op).out = shOp op := by cases op <;> rfl
theorem binW_eq (P : Program) (F : Facts) (op : BinOp) (t : Nat) (x y : CV) : (binW P F op t).out x y = binC P F op t x y := by
  cases hs : isSh op with
  | false =>
    have e : binW P F op t = (concW op).bind fun f => .mk (both (fun k a k' b => guardR 43 (kEq k k') (f k a b)) (binC P F op t)) := by unfold binW; rw [hs]
    rw [e, wr_bind, concW_eq, out_mk]
    cases x <;> first | rfl | skip
    cases y <;> first | rfl | skip
    rename_i k a k' b
    show guardR 43 (kEq k k') (concOp op k a b) = Bool.rec (motive := fun _ => Res CV) (guardR 43 (decK k k') (concOp op k a b)) (shOp op k a b) (isSh op)
    rw [hs, kEq_eq]
  | true =>
    have e : binW P F op t = (shW op).bind fun f => .mk (both (fun k a _ b => f k a b) (binC P F op t)) := by unfold binW; rw [hs]
    rw [e, wr_bind, shW_eq, out_mk]
    cases x <;> first | rfl | skip
    cases y <;> first | rfl | skip
    rename_i k a k' b
    show shOp op k a b = Bool.rec (motive := fun _ => Res CV) (guardR 43 (decK k k') (concOp op k a b)) (shOp op k a b) (isSh op)
    rw [hs]
theorem plainC_eq (M : Mem) (r : Res CV) : plainC M r = pureC M r := by
  cases r with
  | ok v => exact frcC_eq v fun v => (.ok (.c v, M) : Res (AV × Mem))
  | no y => rfl
theorem plainM_eq (r : Res (AV × Mem)) : plainM r = r := by
  cases r with
  | ok q =>
    obtain ⟨v, M⟩ := q
    show frc v (fun v => frcM M fun M => Res.ok (v, M)) = _
    rw [frc_eq, frcM_eq]
  | no y => rfl
theorem cell1_eq (fx : PT AV → Res AV) (t : PT AV) (k : CV → Res (AV × Mem)) : cell1 fx t k = (fx t).bind fun v => v.cv.bind k := by
  unfold cell1
  cases fx t with
  | no y => rfl
  | ok v => cases v <;> rfl
theorem loadW_eq (P : Program) (t : Nat) (M : Mem) (x : CV) : (loadW P t).out M x = loadT P t M x := by
  cases hd : tyU P t with
  | no y =>
    have e : loadW P t = .mk (loadT P t) := by unfold loadW; rw [hd]
    rw [e]; rfl
  | ok d =>
    cases ha : aggD d with
    | false =>
      have e : loadW P t = .mk load1 := by unfold loadW; rw [hd]; show Bool.rec (motive := fun _ => Wr (Mem → CV → Res AV)) _ _ (aggD d) = _; rw [ha]
      rw [e]
      cases x <;> first | rfl | skip
      show _ = (tyU P t).bind _
      rw [hd]
      show _ = Bool.rec (motive := fun _ => Res AV) _ _ (aggD d)
      rw [ha]; rfl
    | true =>
      cases hi : tyI P t with
      | no y =>
        have e : loadW P t = .mk (loadT P t) := by unfold loadW; rw [hd]; show Bool.rec (motive := fun _ => Wr (Mem → CV → Res AV)) _ _ (aggD d) = _; rw [ha, hi]
        rw [e]; rfl
      | ok i =>
        have e : loadW P t = .mk (loadG i.size) := by unfold loadW; rw [hd]; show Bool.rec (motive := fun _ => Wr (Mem → CV → Res AV)) _ _ (aggD d) = _; rw [ha, hi]
        rw [e]
        cases x <;> first | rfl | skip
        show _ = (tyU P t).bind _
        rw [hd]
        show _ = Bool.rec (motive := fun _ => Res AV) _ _ (aggD d)
        rw [ha]
        show _ = (tyI P t).bind _
        rw [hi]; rfl
theorem opW_eq (P : Program) (F : Facts) (cl : CallT) (o : Op) (t : PT AV) (M : Mem) : (opW P F cl o).out t M = opA P F cl (evO t) o M := by
  cases o with
  | move x => simp only [opW, wr_bind, out_mk, evW_fun]; rfl
  | assign x => simp only [opW, wr_bind, out_mk, evW_fun]; rfl
  | pick c a b =>
    simp only [opW, wr_bind, out_mk, evW_fun]
    show _ = pureR M (pickA (evO t) c a b)
    unfold pickA pureR
    cases evO t c with
    | no y => rfl
    | ok v =>
      show (v.bool.bind _) = (v.bool.bind _ : Res AV).bind _
      cases v.bool <;> rfl
  | binOp op ty x y yt =>
    have hb : (binW P F op ty).out = binC P F op ty := by funext x y; exact binW_eq P F op ty x y
    simp only [opW, wr_bind, out_mk, evW_fun, cell1_eq, plainC_eq, hb]; rfl
  | unOp op ty x => simp only [opW, wr_bind, out_mk, evW_fun, cell1_eq, plainC_eq]; rfl
  | convert s d x => simp only [opW, wr_bind, out_mk, evW_fun, cell1_eq, plainC_eq]; rfl
  | load ty a =>
    have hb : (loadW P ty).out = loadT P ty := by funext M x; exact loadW_eq P ty M x
    simp only [opW, wr_bind, out_mk, evW_fun, cell1_eq, hb]; rfl
  | store ty a v => simp only [opW, wr_bind, out_mk, evW_fun, cell1_eq]; rfl
  | fieldAddr ty x f => simp only [opW, wr_bind, out_mk, evW_fun, cell1_eq, plainC_eq]; rfl
  | indexAddr ty x j => simp only [opW, wr_bind, out_mk, evW_fun, cell1_eq, plainC_eq]; rfl
  | nilCheck x => simp only [opW, wr_bind, out_mk, evW_fun]; rfl
  | extract x j => simp only [opW, wr_bind, out_mk, evW_fun]; rfl
  | _ => first | exact plainM_eq _ | rfl
theorem dstW_eq (nt : Nat) (d : Option Nat) (t : PT AV) (v : AV) (k : PT AV → Res TM) : (dstW nt d).out t v k = (putT nt t d v).bind k := by
  cases d with
  | none => rfl
  | some d =>
    show (frcN d fun d => (Bool.rec (motive := fun _ => Wr (PT AV → AV → (PT AV → Res TM) → Res TM)) (.mk fun _ _ _ => .no (.n 202)) ((setW 12 d).bind fun g => .mk fun t v k => frcT (g v t) k) (Nat.ble (Nat.succ d) nt) : Wr (PT AV → AV → (PT AV → Res TM) → Res TM))).out t v k = _
    rw [frcN_eq]
    show _ = (guardR 202 (Nat.ble (Nat.succ d) nt) (.ok (t.set v d))).bind k
    cases Nat.ble (Nat.succ d) nt with
    | false => rfl
    | true =>
      show ((setW 12 d).bind fun g => (.mk fun t v k => frcT (g v t) k : Wr (PT AV → AV → (PT AV → Res TM) → Res TM))).out t v k = k (t.set v d)
      rw [wr_bind, out_mk, setW_eq]
      exact frcT_eq _ _
noncomputable def specS (P : Program) (F : Facts) (cl : CallT) (nt : Nat) (ops : Array Oper) (o : Oper) (t : PT AV) (M : Mem) (k : KT) : Res TM :=
  (wantA t ops o).bind fun w => Bool.rec (motive := fun _ => Res TM) ((putT nt t o.dst undA).bind fun t => k t M) (stepO P F cl nt o t M k) w
theorem stepW_eq (P : Program) (F : Facts) (cl : CallT) (nt : Nat) (ops : Array Oper) (o : Oper) (t : PT AV) (M : Mem) (k : KT) : (stepW P F cl nt ops o).out t M k = specS P F cl nt ops o t M k := by
  have run : (Res.rec (motive := fun _ => Res TM) (fun r => Prod.rec (motive := fun _ => Res TM) (fun v M => (dstW nt o.dst).out t v fun t => k t M) r) (fun y => .no y) ((opW P F cl o.op).out t M) : Res TM) = stepO P F cl nt o t M k := by
    rw [opW_eq]
    unfold stepO
    cases opA P F cl (evO t) o.op M with
    | no y => rfl
    | ok r =>
      obtain ⟨v, M'⟩ := r
      show (dstW nt o.dst).out t v (fun t => k t M') = frc v fun v => frcM M' fun M => (putT nt t o.dst v).bind fun t => frcT t fun t => k t M
      rw [dstW_eq, frc_eq, frcM_eq]
      congr 1
      funext t
      rw [frcT_eq]
  unfold stepW
  rw [wr_bind, wr_bind]
  unfold specS
  cases hg : o.guard with
  | none =>
    have hw : wantA t ops o = .ok true := by unfold wantA; rw [hg]
    rw [hw]
    exact run
  | some g =>
    show (wantA t ops o).bind _ = _
    congr 1
    funext b
    cases b with
    | false => exact dstW_eq nt o.dst t undA _
    | true => exact run
theorem opsW_eq (P : Program) (F : Facts) (cl : CallT) (nt : Nat) (ops : Array Oper) : ∀ (l : List Oper) (t : PT AV) (M : Mem), (opsW P F cl nt ops l).out t M = opsA P F cl nt ops l t M
  | [], _, _ => rfl
  | o :: l, t, M => by
    show ((stepW P F cl nt ops o).bind fun f => (opsW P F cl nt ops l).bind fun k => (.mk fun t M => f t M k : Wr KT)).out t M = _
    rw [wr_bind, wr_bind]
    show (stepW P F cl nt ops o).out t M (opsW P F cl nt ops l).out = _
    rw [stepW_eq]
    have : (opsW P F cl nt ops l).out = opsA P F cl nt ops l := by funext t M; exact opsW_eq P F cl nt ops l t M
    rw [this]
    rfl
theorem goR_eq (k : List Item) (r : Res TM) : goR k r = r.st fun r => .go k r.1 r.2 := by
  cases r with
  | ok q => cases q; rfl
  | no y => rfl
theorem codeW_eq (P : Program) (F : Facts) (cl : CallT) (nt : Nat) (c : Code) (k : List Item) (t : PT AV) (M : Mem) : (codeW P F cl nt c).out k t M = codeA P F cl nt k t M c := by
  cases c with
  | region i ops dr =>
    cases dr with
    | false =>
      show ((opsW P F cl nt ops ops.toList).bind fun f => (.mk fun k t M => goR k (f t M) : Wr ST3)).out k t M = _
      rw [wr_bind, out_mk, goR_eq, opsW_eq]
      rfl
    | true => rfl
  | cond x a b =>
    show ((evW x).bind fun f => (.mk fun k t M => ((f t).bind AV.bool).st fun y => .go (.code (Bool.rec (motive := fun _ => Code) b a y) :: k) t M : Wr ST3)).out k t M = _
    rw [wr_bind, out_mk, evW_eq]
    rfl
  | _ => rfl
theorem stepX_eq (P : Program) (F : Facts) (cl : CallT) (nt : Nat) : stepX P F cl nt = stepA P F cl nt := by
  funext s
  cases s with
  | go k t M =>
    cases k with
    | nil => rfl
    | cons i k =>
      cases i with
      | code c =>
        show goW P F cl nt c k t M = codeA P F cl nt k t M c
        rw [← codeW_eq]
        unfold goW
        cases codeW P F cl nt c
        rfl
      | _ => rfl
  | _ => rfl
theorem runX_eq (P : Program) (F : Facts) (cl : CallT) (nt : Nat) : ∀ k, runX P F cl nt k = runF P F cl nt k
  | 0 => stepX_eq P F cl nt
  | k + 1 => by
    show (fun s => nextS (runX P F cl nt k) (runX P F cl nt k s)) = fun s => nextS (runF P F cl nt k) (runF P F cl nt k s)
    rw [runX_eq P F cl nt k]
theorem bodyX_eq (P : Program) (F : Facts) (cl : CallT) : bodyX P F cl = bodyA P F cl := by
  have h : runX P F cl = runF P F cl := by funext nt k; exact runX_eq P F cl nt k
  funext f as M
  unfold bodyX bodyA
  rw [h]
theorem callX_succ (P : Program) (F : Facts) (ad : Nat) (kn : Known) (d f : Nat) (as : List AV) (M : Mem) : callX P F ad kn (d + 1) f as M =
    Bool.rec (motive := fun _ => Res (AV × Mem)) (Option.rec (motive := fun _ => Res (AV × Mem)) (bodyX P F (callX P F ad kn d) f as M) (fun v => knownR v M as) (knownA kn f)) ((add64A as).bind fun v => .ok (v, M)) (Nat.beq f ad) := rfl
theorem callD_succ (P : Program) (F : Facts) (ad : Nat) (kn : Known) (d f : Nat) (as : List AV) (M : Mem) : callD P F ad kn (d + 1) f as M =
    Bool.rec (motive := fun _ => Res (AV × Mem)) (Option.rec (motive := fun _ => Res (AV × Mem)) (bodyA P F (callD P F ad kn d) f as M) (fun v => knownR v M as) (knownA kn f)) ((add64A as).bind fun v => .ok (v, M)) (Nat.beq f ad) := rfl
theorem callX_eq (P : Program) (F : Facts) (ad : Nat) (kn : Known) : ∀ d, callX P F ad kn d = callD P F ad kn d
  | 0 => rfl
  | d + 1 => by
    funext f as M
    rw [callX_succ, callD_succ, callX_eq P F ad kn d, bodyX_eq]
end Go.Proofs.YtbmhamijoajnhaaGreat.E
