/- What an operation looks at; tests for being equal. Nothing of the program. -/
import Derived.Test.YtbmhamijoajnhaaGreatEC
namespace Go.Proofs.YtbmhamijoajnhaaGreat.E
open Go Go.RowKit
section
variable {P : Program} {F : Facts} {cl : CallT} {M : Mem} {r r' : Operand → Res AV}

theorem partsR_congr {ps : Array (Nat × Operand)} (h : ∀ x ∈ (ps.toList.map (·.2)), r x = r' x) : partsR r ps = partsR r' ps := by
  unfold partsR
  refine mapR_congr fun p hp => ?_
  rw [h p.2 (List.mem_map.2 ⟨p, hp, rfl⟩)]
theorem argsR_congr {l : Array Operand} (h : ∀ x ∈ l, r x = r' x) : argsR r l = argsR r' l := mapR_congr fun x hx => h x (by simpa using hx)
theorem optR_congr {o : Option Operand} (h : ∀ x ∈ o.toArray, r x = r' x) : optR r o = optR r' o := by
  cases o with
  | none => rfl
  | some x => show (r x).bind _ = (r' x).bind _; rw [h x (by simp)]
theorem newA_congr (op : Op) (h : ∀ x ∈ op.operands, r x = r' x) : newA P r op = newA P r' op := by
  cases op with
  | box t x => show (r x).bind _ = (r' x).bind _; rw [h x (by simp [Op.operands])]
  | buildSlice t n ps => show (partsR r ps).bind _ = (partsR r' ps).bind _; rw [partsR_congr fun x hx => h x (by simpa [Op.operands] using hx)]
  | makeMap t x =>
    have e : resvA P r t x = resvA P r' t x := by
      cases x with
      | none => rfl
      | some x => show (r x).bind _ = (r' x).bind _; rw [h x (by simp [Op.operands])]
    show (resvA P r t x).bind _ = (resvA P r' t x).bind _
    rw [e]
  | makeSlice t l c => show (r l).bind (fun l => (anat l).bind fun l => (r c).bind _) = (r' l).bind (fun l => (anat l).bind fun l => (r' c).bind _); rw [h l (by simp [Op.operands]), h c (by simp [Op.operands])]
  | _ => rfl
theorem opA_congr (op : Op) (h : ∀ x ∈ op.operands, r x = r' x) : opA P F cl r op M = opA P F cl r' op M := by
  cases op with
  | move x => show pureR M (r x) = pureR M (r' x); rw [h x (by simp [Op.operands])]
  | assign x => show pureR M (r x) = pureR M (r' x); rw [h x (by simp [Op.operands])]
  | pick c a b =>
    show pureR M (pickA r c a b) = pureR M (pickA r' c a b)
    unfold pickA
    rw [h c (by simp [Op.operands]), h a (by simp [Op.operands]), h b (by simp [Op.operands])]
  | alloc t => rfl
  | box t x => show newO M (newA P r _) = newO M (newA P r' _); rw [newA_congr _ h]
  | build t ps =>
    show pureR M (buildA P r t ps) = pureR M (buildA P r' t ps)
    unfold buildA
    rw [partsR_congr fun x hx => h x (by simpa [Op.operands] using hx)]
  | buildSlice t n ps => show newO M (newA P r _) = newO M (newA P r' _); rw [newA_congr _ h]
  | load t a => show (r a).bind _ = (r' a).bind _; rw [h a (by simp [Op.operands])]
  | store t a v => show (r a).bind (fun x => x.cv.bind fun x => (r v).bind _) = (r' a).bind (fun x => x.cv.bind fun x => (r' v).bind _); rw [h a (by simp [Op.operands]), h v (by simp [Op.operands])]
  | nilCheck x => show (r x).bind _ = (r' x).bind _; rw [h x (by simp [Op.operands])]
  | binOp op t x y yt => show (r x).bind (fun x => x.cv.bind fun x => (r y).bind _) = (r' x).bind (fun x => x.cv.bind fun x => (r' y).bind _); rw [h x (by simp [Op.operands]), h y (by simp [Op.operands])]
  | unOp op t x => show (r x).bind _ = (r' x).bind _; rw [h x (by simp [Op.operands])]
  | convert s d x => show (r x).bind _ = (r' x).bind _; rw [h x (by simp [Op.operands])]
  | makeFunc fn first captured =>
    show pureR M (mkFn r fn first captured) = pureR M (mkFn r' fn first captured)
    have e : mapR (fun o => (r o).bind capOf) captured.toList = mapR (fun o => (r' o).bind capOf) captured.toList := mapR_congr fun x hx => by rw [h x (by simp [Op.operands]; exact .inr (by simpa using hx))]
    cases fn <;> first | rfl | skip
    unfold mkFn
    rw [e]
  | makeMap t x => show newO M (newA P r _) = newO M (newA P r' _); rw [newA_congr _ h]
  | makeSlice t l c => show newO M (newA P r _) = newO M (newA P r' _); rw [newA_congr _ h]
  | slice t x lo hi mx =>
    show (r x).bind (fun x => x.cv.bind fun x => (optR r lo).bind fun lo => (optR r hi).bind fun hi => (optR r mx).bind _) = (r' x).bind (fun x => x.cv.bind fun x => (optR r' lo).bind fun lo => (optR r' hi).bind fun hi => (optR r' mx).bind _)
    rw [h x (by simp [Op.operands]), optR_congr (o := lo) fun y hy => h y (by simp only [Op.operands, Array.mem_append]; exact .inl (.inl (.inr hy))),
      optR_congr (o := hi) fun y hy => h y (by simp only [Op.operands, Array.mem_append]; exact .inl (.inr hy)), optR_congr (o := mx) fun y hy => h y (by simp only [Op.operands, Array.mem_append]; exact .inr hy)]
  | fieldAddr t x f => show (r x).bind _ = (r' x).bind _; rw [h x (by simp [Op.operands])]
  | field t x f => show (r x).bind _ = (r' x).bind _; rw [h x (by simp [Op.operands])]
  | indexAddr t x j => show (r x).bind (fun x => x.cv.bind fun x => (r j).bind _) = (r' x).bind (fun x => x.cv.bind fun x => (r' j).bind _); rw [h x (by simp [Op.operands]), h j (by simp [Op.operands])]
  | lookup t x k ok => show (r x).bind (fun x => x.cv.bind fun x => (r k).bind _) = (r' x).bind (fun x => x.cv.bind fun x => (r' k).bind _); rw [h x (by simp [Op.operands]), h k (by simp [Op.operands])]
  | mapUpdate t m k v =>
    show (r m).bind (fun m => m.cv.bind fun m => (r k).bind fun k => k.cv.bind fun k => (r v).bind _) = (r' m).bind (fun m => m.cv.bind fun m => (r' k).bind fun k => k.cv.bind fun k => (r' v).bind _)
    rw [h m (by simp [Op.operands]), h k (by simp [Op.operands]), h v (by simp [Op.operands])]
  | extract x j => show (r x).bind _ = (r' x).bind _; rw [h x (by simp [Op.operands])]
  | call c =>
    obtain ⟨callee, args, ts⟩ := c
    have e : argsR r args = argsR r' args := argsR_congr fun x hx => h x (by simp only [Op.operands, Call.operands, Array.mem_append]; exact .inr hx)
    cases callee with
    | value f =>
      show (r f).bind _ = (r' f).bind _
      rw [h f (by simp [Op.operands, Call.operands])]
      congr 1
      funext v
      congr 1
      funext x
      cases x with
      | f f caps => show (argsR r args).bind _ = (argsR r' args).bind _; rw [e]
      | _ => rfl
    | invoke x m => rfl
    | builtin b => show (argsR r args).bind _ = (argsR r' args).bind _; rw [e]
  | _ => rfl
/-- What does not look at memory. -/
theorem opA_pure {op : Op} (hk : match kindO op with | .pure => True | _ => False) {v : AV} {M' : Mem} (h : opA P F cl r op M = .ok (v, M')) (M2 : Mem) : opA P F cl r op M2 = .ok (v, M2) := by
  have pr : ∀ {x : Res AV}, pureR M x = .ok (v, M') → pureR M2 x = .ok (v, M2) := by
    intro x hx
    obtain ⟨h1, _⟩ := pureR_ok hx
    rw [h1]; rfl
  have pc : ∀ {x : Res CV}, pureC M x = .ok (v, M') → pureC M2 x = .ok (v, M2) := by
    intro x hx
    obtain ⟨y, h1, h2, _⟩ := pureC_ok hx
    rw [h1, h2]; rfl
  have one : ∀ {x : Operand} {f g : AV → Res (AV × Mem)}, ((r x).bind f) = .ok (v, M') → (∀ a, f a = .ok (v, M') → g a = .ok (v, M2)) → (r x).bind g = .ok (v, M2) := by
    intro x f g hx hfg
    obtain ⟨a, h1, h2⟩ := bind_ok hx
    rw [h1]
    exact hfg a h2
  have cv1 : ∀ {x : AV} {f g : CV → Res (AV × Mem)}, (x.cv.bind f) = .ok (v, M') → (∀ a, f a = .ok (v, M') → g a = .ok (v, M2)) → x.cv.bind g = .ok (v, M2) := by
    intro x f g hx hfg
    obtain ⟨a, h1, h2⟩ := bind_ok hx
    rw [h1]
    exact hfg a h2
  cases op with
  | move x => exact pr h
  | assign x => exact pr h
  | pick c a b => exact pr h
  | build t ps => exact pr h
  | nilCheck x => exact one h fun a ha => pr ha
  | binOp op t x y yt => exact one h fun a ha => cv1 ha fun b hb => one hb fun c hc => cv1 hc fun d hd => pc hd
  | unOp op t x => exact one h fun a ha => cv1 ha fun b hb => pc hb
  | makeFunc fn first captured => exact pr h
  | fieldAddr t x f => exact one h fun a ha => cv1 ha fun b hb => pc hb
  | field t x f => exact one h fun a ha => pr ha
  | indexAddr t x j =>
    refine one h fun a ha => cv1 ha fun b hb => one hb fun c hc => ?_
    obtain ⟨n, h1, h2⟩ := bind_ok hc
    rw [h1]
    exact pc h2
  | extract x j => exact one h fun a ha => pr ha
  | call c =>
    obtain ⟨callee, args, ts⟩ := c
    cases callee with
    | value f => exact hk.elim
    | invoke x m => exact hk.elim
    | builtin b =>
      obtain ⟨as, has, h⟩ := bind_ok h
      show (argsR r args).bind _ = _
      have has : argsR r args = .ok as := has
      rw [has]
      rcases biA_one h with ⟨x, rfl⟩ | ⟨x, y, rfl⟩
      · cases b <;> first | exact hk.elim | (cases h; done) | skip
        case len =>
          refine cv1 h fun b hb => ?_
          obtain ⟨t, h1, h2⟩ := bind_ok hb
          obtain ⟨zz, h3, h4⟩ := bind_ok h2
          cases h4
          rw [h1]
          show (lenA P t b).bind _ = _
          rw [h3]; rfl
        all_goals (obtain ⟨cx, hcx, h⟩ := bind_ok h; cases h)
      · obtain ⟨cx, hcx, h⟩ := bind_ok h
        obtain ⟨cy, hcy, h⟩ := bind_ok h
        show x.cv.bind (fun x => y.cv.bind _) = _
        rw [hcx]
        show y.cv.bind _ = _
        rw [hcy]
        cases b <;> first | exact hk.elim | (cases h; done) | skip
        case max =>
          obtain ⟨q, h1, h2⟩ := bind_ok h
          cases h2
          show (maxA F true cx cy).bind _ = _
          rw [h1]; rfl
        case min =>
          obtain ⟨q, h1, h2⟩ := bind_ok h
          cases h2
          show (maxA F false cx cy).bind _ = _
          rw [h1]; rfl
  | _ => first | exact hk.elim | (cases h; done)
end

/- Being equal. -/
theorem beqB_true {a b : Bool} (h : beqB a b = true) : a = b := by cases a <;> cases b <;> first | rfl | cases h
theorem beqK_true {a b : IntKind} (h : beqK a b = true) : a = b := of_decide_eq_true h
theorem ieq_true {a b : Int} (h : ieq a b = true) : a = b := by rw [ieq_eq] at h; exact eq_of_beq h
theorem beqPs_true : ∀ {l m : List (Nat × Nat)}, beqPs l m = true → l = m
  | [], [], _ => rfl
  | [], _ :: _, h => by cases h
  | _ :: _, [], h => by cases h
  | a :: l, b :: m, h => by
    have e : beqPs (a :: l) (b :: m) = (Nat.beq a.1 b.1 && Nat.beq a.2 b.2 && beqPs l m) := rfl
    rw [e, Bool.and_eq_true, Bool.and_eq_true] at h
    obtain ⟨⟨h1, h2⟩, h3⟩ := h
    rw [beqPs_true h3, Prod.ext (beq_true h1) (beq_true h2)]
theorem beqXs_true : ∀ {l m : List (Nat × Int)}, beqXs l m = true → l = m
  | [], [], _ => rfl
  | [], _ :: _, h => by cases h
  | _ :: _, [], h => by cases h
  | a :: l, b :: m, h => by
    have e : beqXs (a :: l) (b :: m) = (Nat.beq a.1 b.1 && ieq a.2 b.2 && beqXs l m) := rfl
    rw [e, Bool.and_eq_true, Bool.and_eq_true] at h
    obtain ⟨⟨h1, h2⟩, h3⟩ := h
    rw [beqXs_true h3, Prod.ext (beq_true h1) (ieq_true h2)]
theorem beqC_true {x y : CV} (h : beqC x y = true) : x = y := by
  cases x <;> cases y <;> first | (cases h; done) | rfl | skip
  · rw [beqB_true h]
  · simp only [beqC, Bool.and_eq_true] at h; rw [beqK_true h.1, ieq_true h.2]
  · rename_i k e k' e'
    obtain ⟨c, xs⟩ := e
    obtain ⟨d, ys⟩ := e'
    simp only [beqC, Bool.and_eq_true] at h
    rw [beqK_true h.1.1, ieq_true h.1.2, beqXs_true h.2]
  · simp only [beqC, Bool.and_eq_true] at h; rw [beq_true h.1, beq_true h.2]
  · simp only [beqC, Bool.and_eq_true] at h
    obtain ⟨⟨⟨⟨⟨h1, h2⟩, h3⟩, h4⟩, h5⟩, h6⟩ := h
    rw [beq_true h1, beq_true h2, beq_true h3, beq_true h4, beqB_true h5, beq_true h6]
  · simp only [beqC, Bool.and_eq_true] at h; rw [beq_true h.1, beqPs_true h.2]
  · rw [beq_true h]
  · rw [(beqL_eq _ _).1 h]
theorem beqCs_true : ∀ {l m : List CV}, beqCs l m = true → l = m
  | [], [], _ => rfl
  | [], _ :: _, h => by cases h
  | _ :: _, [], h => by cases h
  | a :: l, b :: m, h => by
    have e : beqCs (a :: l) (b :: m) = (beqC a b && beqCs l m) := rfl
    rw [e, Bool.and_eq_true] at h
    rw [beqC_true h.1, beqCs_true h.2]
theorem beq2_true {x y : V2} (h : beq2 x y = true) : x = y := by
  cases x <;> cases y <;> first | (cases h; done) | skip
  · rw [beqC_true h]
  · rw [beqCs_true h]
theorem beq2s_true : ∀ {l m : List V2}, beq2s l m = true → l = m
  | [], [], _ => rfl
  | [], _ :: _, h => by cases h
  | _ :: _, [], h => by cases h
  | a :: l, b :: m, h => by
    have e : beq2s (a :: l) (b :: m) = (beq2 a b && beq2s l m) := rfl
    rw [e, Bool.and_eq_true] at h
    rw [beq2_true h.1, beq2s_true h.2]
theorem beqA_true {x y : AV} (h : beqA x y = true) : x = y := by
  cases x <;> cases y <;> first | (cases h; done) | skip
  · rw [beqC_true h]
  · rw [beqCs_true h]
  · rw [beq2s_true h]
theorem beqOC_true {x y : Option CV} (h : beqOC x y = true) : x = y := by
  cases x <;> cases y <;> first | (cases h; done) | rfl | skip
  rw [beqC_true h]
theorem beqT_true : ∀ {t u : PT CV}, beqT t u = true → t = u := by
  intro t
  induction t with
  | lf => intro u h; cases u with | lf => rfl | nd l v r => cases h
  | nd l v r ihl ihr =>
    intro u h
    cases u with
    | lf => cases h
    | nd l' v' r' =>
      have e : beqT (.nd l v r) (.nd l' v' r') = (beqOC v v' && beqT l l' && beqT r r') := rfl
      rw [e, Bool.and_eq_true, Bool.and_eq_true] at h
      rw [ihl h.1.2, ihr h.2, beqOC_true h.1.1]
theorem beqM_true : ∀ {l m : List (Nat × CV)}, beqM l m = true → l = m
  | [], [], _ => rfl
  | [], _ :: _, h => by cases h
  | _ :: _, [], h => by cases h
  | a :: l, b :: m, h => by
    have e : beqM (a :: l) (b :: m) = (Nat.beq a.1 b.1 && beqC a.2 b.2 && beqM l m) := rfl
    rw [e, Bool.and_eq_true, Bool.and_eq_true] at h
    obtain ⟨⟨h1, h2⟩, h3⟩ := h
    rw [beqM_true h3, Prod.ext (beq_true h1) (beqC_true h2)]
theorem beqBlk_true {x y : Blk} (h : beqBlk x y = true) : x = y := by
  cases x <;> cases y <;> first | (cases h; done) | skip
  · rw [beqT_true h]
  · rw [beqM_true h]

/- Values made plain are the same. -/
theorem frcN_eq {β : Type} (n : Nat) (k : Nat → β) : frcN n k = k n := by cases n <;> rfl
theorem frcI_eq {β : Type} (n : Int) (k : Int → β) : frcI n k = k n := by
  cases n with
  | ofNat x => exact frcN_eq x fun x => k (.ofNat x)
  | negSucc x => exact frcN_eq x fun x => k (.negSucc x)
theorem frcB_eq {β : Type} (b : Bool) (k : Bool → β) : frcB b k = k b := by cases b <;> rfl
theorem frcC_eq {β : Type} (x : CV) (k : CV → β) : frcC x k = k x := by
  cases x with
  | b b => exact frcB_eq b fun b => k (.b b)
  | i kk n => exact frcI_eq n fun n => k (.i kk n)
  | p b o => exact frcN_eq o fun o => k (.p b o)
  | s b o l c ex sz =>
    show frcN o (fun o => frcN l fun l => frcN c fun c => k (.s b o l c ex sz)) = _
    rw [frcN_eq, frcN_eq, frcN_eq]
  | _ => rfl
theorem frc_eq {β : Type} (v : AV) (k : AV → β) : frc v k = k v := by
  cases v with
  | c x => exact frcC_eq x fun x => k (.c x)
  | _ => rfl
theorem frcM_eq {β : Type} (m : Mem) (k : Mem → β) : frcM m k = k m := by
  obtain ⟨b, n⟩ := m
  exact frcN_eq n fun n => k ⟨b, n⟩
theorem frcT_eq {β : Type} (t : PT AV) (k : PT AV → β) : frcT t k = k t := by cases t <;> rfl
end Go.Proofs.YtbmhamijoajnhaaGreat.E
