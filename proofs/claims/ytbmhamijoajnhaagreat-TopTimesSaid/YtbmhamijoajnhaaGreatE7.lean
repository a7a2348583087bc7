/- The operations that make or read values are as the model has them. Nothing of the program. -/
import Derived.Test.YtbmhamijoajnhaaGreatE6
import Derived.Laws.BytesString
import Derived.Laws.MakeOwn
namespace Go.Proofs.YtbmhamijoajnhaaGreat.E
open Go Go.RowKit
section
variable {X : Nat → Prop} {P : Program} {F : Facts} {μ : Mu} {ρ : Nat → Int} {B : Nat} {w : World} {M : Mem}

theorem addr_add (k s n : Nat) : Addr.add ⟨k, s, none⟩ n = ⟨k, s + n, none⟩ := add_at k s n
theorem loadT_ok (h : MR X μ ρ B w M) {t : Nat} {x : CV} {v : AV} (hl : loadT P t M x = .ok v) {ux : Value} (hx : CR μ ρ w ux x) :
    ∃ u, (Instr.loadAt t ux).run P w = .ok u w ∧ AR μ ρ w u v := by
  cases x <;> first | (cases hl; done) | skip
  rename_i b o
  obtain ⟨k, s, hk, rfl⟩ := hx
  obtain ⟨d, hd, hl⟩ := bind_ok hl
  have hd := tyU_ok hd
  cases ha : aggD d with
  | false =>
    rw [ha] at hl
    obtain ⟨y, hy, hl⟩ := bind_ok hl
    cases hl
    obtain ⟨u, hu, hcr⟩ := h.ld1 hy hk
    refine ⟨u, ?_, hcr⟩
    simp [Instr.loadAt, Instr.sureAddr, loadVar, run_isAgg hd, ha, hu]
  | true =>
    rw [ha] at hl
    obtain ⟨i, hi, hl⟩ := bind_ok hl
    obtain ⟨l, hl', hl⟩ := bind_ok hl
    cases hl
    have hi := tyI_ok hi
    obtain ⟨h1, vs, h2, h3⟩ := h.ldN hl' hk
    have hn : vs.length = i.size := by rw [h2.length, h1]
    have hr := run_loadCells_list (P := P) w _ vs h3
    rw [hn] at hr
    refine ⟨.agg vs.toArray, ?_, vs.toArray, rfl, by simpa using h2⟩
    simp [Instr.loadAt, Instr.sureAddr, loadVar, run_isAgg hd, ha, run_sizeOf hi, hr]
theorem storeT_ok (h : MR X μ ρ B w M) {t : Nat} {x : CV} {v : AV} {M' : Mem} (hl : storeT P t M x v = .ok M') {ux uv : Value} (hx : CR μ ρ w ux x) (hv : AR μ ρ w uv v) :
    ∃ w', (Instr.storeAt t ux uv).run P w = .ok () w' ∧ MR X μ ρ B w' M' ∧ Ste B μ w μ w' := by
  cases x <;> first | (cases hl; done) | skip
  rename_i b o
  obtain ⟨k, s, hk, rfl⟩ := hx
  obtain ⟨l, hl', hl⟩ := bind_ok hl
  obtain ⟨i, hi, hl⟩ := bind_ok hl
  obtain ⟨h1, hl⟩ := guardR_ok hl
  have hi := tyI_ok hi
  have hc := hv.cells hl'
  have hsz : uv.cells.size = i.size := by
    have := hc.length
    rw [Array.length_toList] at this
    rw [this, beq_true h1]
  obtain ⟨w', hr, h2, h3⟩ := h.stN hl hk hc P
  exact ⟨w', by simp [Instr.storeAt, Instr.sureAddr, storeVar, run_sizeOf hi, hsz, hr], h2, h3⟩
theorem fieldA_ok {t : Nat} {x v : CV} {f : Nat} (hl : fieldA P t x f = .ok v) {ux : Value} (hx : CR μ ρ w ux x) :
    ∃ u, (Instr.fieldAt t ux f).run P w = .ok u w ∧ CR μ ρ w u v := by
  cases x <;> first | (cases hl; done) | skip
  rename_i b o
  obtain ⟨k, s, hk, rfl⟩ := hx
  obtain ⟨d, hd, hl⟩ := bind_ok hl
  have hd := tyU_ok hd
  cases d <;> first | (cases hl; done) | skip
  rename_i fs
  obtain ⟨fl, hf, hl⟩ := bind_ok hl
  obtain ⟨i, hi, hl⟩ := bind_ok hl
  obtain ⟨h1, hl⟩ := guardR_ok hl
  cases hl
  have hi := tyI_ok hi
  have hf := ofOpt_ok hf
  have h1 := ble_true h1
  refine ⟨.pointer (some ⟨k, s + o + fl.offset, none⟩), ?_, k, s, hk, by simp [Nat.add_assoc]⟩
  simp [Instr.fieldAt, Instr.sureAddr, run_underlying hd, hf, fieldPlace, run_sizeOf hi, addr_add, show ¬ (i.size = 0) by omega]
theorem fieldV_ok {t : Nat} {x v : AV} {f : Nat} (hl : fieldV P t x f = .ok v) {ux : Value} (hx : AR μ ρ w ux x) :
    ∃ u, (Instr.field t ux f).run P w = .ok u w ∧ AR μ ρ w u v := by
  cases x <;> first | (cases hl; done) | skip
  rename_i l
  obtain ⟨vs, rfl, hvs⟩ := hx
  obtain ⟨d, hd, hl⟩ := bind_ok hl
  have hd := tyU_ok hd
  cases d <;> first | (cases hl; done) | skip
  rename_i fs
  obtain ⟨fl, hf, hl⟩ := bind_ok hl
  obtain ⟨fd, hfd, hl⟩ := bind_ok hl
  have hf := ofOpt_ok hf
  have hfd := tyU_ok hfd
  cases ha : aggD fd with
  | false =>
    rw [ha] at hl
    obtain ⟨y, hy, hl⟩ := bind_ok hl
    cases hl
    obtain ⟨u, hu, hcr⟩ := hvs.get _ _ (ofOpt_ok hy)
    refine ⟨u, ?_, hcr⟩
    rw [Array.getElem?_toList] at hu
    simp [Instr.field, run_underlying hd, hf, asAgg, part, run_isAgg hfd, ha, hu]
  | true =>
    rw [ha] at hl
    obtain ⟨i, hi, hl⟩ := bind_ok hl
    cases hl
    have hi := tyI_ok hi
    refine ⟨.agg (vs.extract fl.offset (fl.offset + i.size)), ?_, _, rfl, ?_⟩
    · simp [Instr.field, run_underlying hd, hf, asAgg, part, run_isAgg hfd, ha, run_sizeOf hi]
    · have : (vs.extract fl.offset (fl.offset + i.size)).toList = (vs.toList.drop fl.offset).take i.size := by
        rw [Array.toList_extract, List.extract_eq_take_drop]
        congr 1
        omega
      rw [this]
      exact (hvs.drop _).take _
theorem anat_ok {v : AV} {n : Nat} {u : Value} (h : AR μ ρ w u v) (hn : anat v = .ok n) : ∃ k, u = .int k (n : Int) := by
  obtain ⟨x, hx, hn⟩ := bind_ok hn
  obtain ⟨hc, _⟩ := h.cv hx
  cases x <;> first | (cases hn; done) | skip
  exact ⟨_, by rw [show u = _ from hc, natOf_ok hn]⟩
theorem indexA_ok {t : Nat} {x v : CV} {j : Nat} (hl : indexA P t x j = .ok v) {ux : Value} (hx : CR μ ρ w ux x) (k0 : IntKind) :
    ∃ u, (Instr.indexAt t ux (.int k0 (j : Int))).run P w = .ok u w ∧ CR μ ρ w u v := by
  obtain ⟨d, hd, hl⟩ := bind_ok hl
  have hd := tyU_ok hd
  cases d with
  | slice e =>
    cases x with
    | s b o len cap ex sz =>
      obtain ⟨k, s, c, hk, rfl, _⟩ := hx
      obtain ⟨h1, hl⟩ := guardR_ok hl
      obtain ⟨i, hi, hl⟩ := bind_ok hl
      cases hl
      have hi := tyI_ok hi
      have h1 := ble_true h1
      refine ⟨.pointer (some ⟨k, s + o + j * i.size, none⟩), ?_, k, s, hk, by simp [Nat.add_assoc]⟩
      simp [Instr.indexAt, asIntOf, run_underlying hd, run_sizeOf hi, addr_add]
      omega
    | _ => cases hl
  | array n e =>
    cases x with
    | p b o =>
      obtain ⟨k, s, hk, rfl⟩ := hx
      obtain ⟨h1, hl⟩ := guardR_ok hl
      obtain ⟨i, hi, hl⟩ := bind_ok hl
      cases hl
      have hi := tyI_ok hi
      have h1 := ble_true h1
      refine ⟨.pointer (some ⟨k, s + o + j * i.size, none⟩), ?_, k, s, hk, by simp [Nat.add_assoc]⟩
      simp [Instr.indexAt, asIntOf, Instr.sureAddr, run_underlying hd, run_sizeOf hi, addr_add, show j < n by omega]
    | _ => cases hl
  | _ => cases hl
theorem extr_ok {x v : AV} {j : Nat} (hl : extr x j = .ok v) {ux : Value} (hx : AR μ ρ w ux x) : ∃ u, (Instr.extract ux j).run P w = .ok u w ∧ AR μ ρ w u v := by
  cases x <;> first | (cases hl; done) | skip
  rename_i l
  obtain ⟨vs, rfl, hvs⟩ := hx
  obtain ⟨y, hy, hl⟩ := bind_ok hl
  cases hl
  obtain ⟨u, hu, hcr⟩ := hvs.get _ _ (ofOpt_ok hy)
  rw [Array.getElem?_toList] at hu
  exact ⟨u, by simp [Instr.extract, hu], hcr.av⟩
theorem u8s_ok {l : List CV} {m : List Nat} (h : u8s l = .ok m) : ∀ {vs : List Value}, All2 (CR μ ρ w) vs l → vs = (m.map fun n : Nat => (n : Int)).map (Value.int .u8) ∧ ∀ n ∈ m, n ≤ 255 := by
  induction l generalizing m with
  | nil => intro vs hv; cases h; cases vs with
    | nil => exact ⟨rfl, by simp⟩
    | cons _ _ => exact hv.elim
  | cons x l ih =>
    intro vs hv
    unfold u8s at h
    rw [mapR_cons] at h
    obtain ⟨n, hn, h⟩ := bind_ok h
    obtain ⟨r, hr, h⟩ := bind_ok h
    cases h
    cases vs with
    | nil => exact hv.elim
    | cons v vs =>
      obtain ⟨h1, h2⟩ := ih hr hv.2
      have h3 := hv.1
      cases x <;> first | (cases hn; done) | skip
      rename_i k a
      cases k <;> first | (cases hn; done) | skip
      obtain ⟨q, hq, hn⟩ := bind_ok hn
      obtain ⟨hle, hn⟩ := guardR_ok hn
      cases hn
      have e : v = .int .u8 a := h3
      have ha := natOf_ok hq
      refine ⟨by rw [h1, e, ha]; rfl, fun z hz => ?_⟩
      rcases List.mem_cons.1 hz with rfl | hz
      · exact ble_true hle
      · exact h2 z hz
theorem foldl_push (ns : List Nat) : ∀ s : ByteArray, (ns.map fun n : Nat => (n : Int)).foldl (fun r n => r.push (UInt8.ofNat n.toNat)) s = ⟨s.data ++ (ns.map UInt8.ofNat).toArray⟩ := by
  induction ns with
  | nil => intro s; simp
  | cons n ns ih =>
    intro s
    simp only [List.map_cons, List.foldl_cons]
    rw [ih]
    simp [ByteArray.push]
theorem convS_ok (h : MR X μ ρ B w M) {s d e : Nat} {x v : CV} (hs : P.underlying s = some (.slice e)) (hd : P.underlying d = some .string) (hl : convS P M e x = .ok v) {ux : Value} (hx : CR μ ρ w ux x) :
    ∃ u, (convert s d ux).run P w = .ok u w ∧ CR μ ρ w u v := by
  obtain ⟨ed, he0, hl⟩ := bind_ok hl
  have he := tyU_ok he0
  have key : ed = .int .u8 := by
    cases ed with
    | int k => cases k <;> first | rfl | (cases hl; done)
    | _ => cases hl
  subst key
  cases x with
  | sz =>
    cases hl
    have e' : ux = .slice none 0 0 := hx
    subst e'
    refine ⟨.string .empty, ?_, .empty, rfl, rfl⟩
    rw [run_convert_bytes_string w s d e none 0 0 hs he hd]
    simp [Conv.bytesToString]
  | s b o len cap ex sz =>
    obtain ⟨k, q, c, hk, rfl, _⟩ := hx
    obtain ⟨l, hl', hl⟩ := bind_ok hl
    obtain ⟨m, hm, hl⟩ := bind_ok hl
    cases hl
    obtain ⟨h1, vs, h2, h3⟩ := h.ldN hl' hk
    obtain ⟨h4, h5⟩ := u8s_ok hm h2
    have hr := run_loadCells_list (P := P) w _ vs h3
    have hn : vs.length = len := by rw [h2.length, h1]
    rw [hn, h4] at hr
    refine ⟨.string ((m.map fun n : Nat => (n : Int)).foldl (fun r n => r.push (UInt8.ofNat n.toNat)) ByteArray.empty), ?_, _, rfl, ?_⟩
    · rw [run_convert_bytes_string w s d e _ len c hs he hd]
      exact run_bytesToString w _ len c _ hr
    · rw [foldl_push]
      simp only [natL]
      have : (ByteArray.empty.data ++ (m.map UInt8.ofNat).toArray).toList = m.map UInt8.ofNat := by simp [ByteArray.empty, ByteArray.emptyWithCapacity]; rfl
      rw [this, List.map_map]
      conv => rhs; rw [← List.map_id m]
      refine List.map_congr_left fun n hn => ?_
      simp only [Function.comp, id]
      have := h5 n hn
      rw [UInt8.toNat_ofNat']
      omega
  | _ => cases hl
theorem convC_ok (hF : F.Sat ρ) (h : MR X μ ρ B w M) {s d : Nat} {x v : CV} (hl : convC P F M s d x = .ok v) {ux : Value} (hx : CR μ ρ w ux x) :
    ∃ u, (convert s d ux).run P w = .ok u w ∧ CR μ ρ w u v := by
  obtain ⟨ds, hds, hl⟩ := bind_ok hl
  obtain ⟨dd, hdd, hl⟩ := bind_ok hl
  have hds := tyU_ok hds
  have hdd := tyU_ok hdd
  cases dd <;> first | (cases hl; done) | skip
  · obtain ⟨k', n, rfl, hc⟩ := convI_ok hF hl hx
    exact ⟨_, by simp [convert, run_underlying hds, run_underlying hdd, Conv.intToInt], hc⟩
  · cases ds <;> first | (cases hl; done) | skip
    exact convS_ok h hds hdd hl hx
/- Parts of slices. -/
theorem run_bound {P : Program} (w : World) (k : IntKind) (i y : Nat) (code : BoundsCode) (h : i ≤ y) : (Instr.sliceBound (.int k (i : Int)) y code).run P w = .ok i w := by
  simp [Instr.sliceBound, asIntOf, h]
/-- A bound as the model has it. -/
def BO (o : Option Value) (n : Option Nat) : Prop := match o, n with
  | none, none => True
  | some v, some n => ∃ k, v = .int k (n : Int)
  | _, _ => False
theorem run_bounds2 {P : Program} (w : World) (isS : Bool) {len cap : Nat} {lo hi : Option Value} {l h : Option Nat} (hl : BO lo l) (hh : BO hi h) (h1 : l.getD 0 ≤ h.getD len) (h2 : h.getD len ≤ cap) :
    (Instr.sliceBounds isS len cap lo hi none).run P w = .ok (l.getD 0, h.getD len, cap) w := by
  cases lo with
  | none =>
    cases l with
    | some _ => exact hl.elim
    | none =>
      cases hi with
      | none =>
        cases h with
        | some _ => exact hh.elim
        | none => simp [Instr.sliceBounds]
      | some v =>
        cases h with
        | none => exact hh.elim
        | some n =>
          obtain ⟨k, rfl⟩ := hh
          simp [Instr.sliceBounds, run_bound w k n cap _ h2]
  | some v =>
    cases l with
    | none => exact hl.elim
    | some m =>
      obtain ⟨k, rfl⟩ := hl
      cases hi with
      | none =>
        cases h with
        | some _ => exact hh.elim
        | none =>
          simp at h1
          simp [Instr.sliceBounds, run_bound w k m len _ h1]
      | some v =>
        cases h with
        | none => exact hh.elim
        | some n =>
          obtain ⟨k', rfl⟩ := hh
          simp at h1 h2
          simp [Instr.sliceBounds, run_bound w k' n cap _ h2, run_bound w k m n _ h1]
theorem run_bounds3 {P : Program} (w : World) {len cap : Nat} {lo hi mx : Option Value} {l : Option Nat} {h m : Nat} (hl : BO lo l) (hh : BO hi (some h)) (hm : BO mx (some m)) (h1 : l.getD 0 ≤ h) (h2 : h ≤ m) (h3 : m ≤ cap) :
    (Instr.sliceBounds true len cap lo hi mx).run P w = .ok (l.getD 0, h, m) w := by
  cases hi with
  | none => exact hh.elim
  | some vh =>
    cases mx with
    | none => exact hm.elim
    | some vm =>
      obtain ⟨k, rfl⟩ := hh
      obtain ⟨k', rfl⟩ := hm
      cases lo with
      | none =>
        cases l with
        | some _ => exact hl.elim
        | none => simp [Instr.sliceBounds, run_bound w k' m cap _ h3, run_bound w k h m _ h2]
      | some v =>
        cases l with
        | none => exact hl.elim
        | some n =>
          obtain ⟨k'', rfl⟩ := hl
          simp at h1
          simp [Instr.sliceBounds, run_bound w k' m cap _ h3, run_bound w k h m _ h2, run_bound w k'' n h _ h1]
theorem run_cutS {P : Program} (w : World) {t e : Nat} {i : TypeInfo} (ht : P.underlying t = some (.slice e)) (hi : P.info? e = some i) (a : Option Addr) (len cap : Nat) {lo hi' mx : Option Value} {l h m : Nat}
    (hb : (Instr.sliceBounds true len cap lo hi' mx).run P w = .ok (l, h, m) w) :
    (Instr.sliceAt t (.slice a len cap) lo hi' mx).run P w = .ok (.slice (if m = l then a else a.map (·.add (l * i.size))) (h - l) (m - l)) w := by
  simp [Instr.sliceAt, run_underlying ht, Instr.slice, hb, run_sizeOf hi]
theorem cut3_ok {b o sz l h m k s : Nat} (hk : μ b = some (k, s)) (h1 : l ≤ h) (h2 : h ≤ m) (hroom : Room w k (s + o + m * sz)) :
    CR μ ρ w (.slice (if m = l then some ⟨k, s + o, none⟩ else some ⟨k, s + o + l * sz, none⟩) (h - l) (m - l)) (cut3 b o sz l h m) := by
  unfold cut3
  by_cases e : m = l
  · subst e
    have : Nat.beq m m = true := Nat.beq_refl m
    rw [this, if_pos rfl]
    have hl : h = m := by omega
    subst hl
    exact ⟨k, s, h - h, hk, rfl, fun _ => rfl, Nat.le_refl _, Nat.le_refl _, by
      obtain ⟨c, e, fr, h3, h4⟩ := hroom
      exact ⟨c, e, fr, h3, by simp; omega⟩⟩
  · have : Nat.beq m l = false := beq_of_ne e
    rw [this, if_neg e]
    refine ⟨k, s, m - l, hk, by simp [Nat.add_assoc], fun _ => rfl, Nat.le_refl _, by show h - l ≤ m - l; omega, ?_⟩
    obtain ⟨c, e', fr, h3, h4⟩ := hroom
    refine ⟨c, e', fr, h3, ?_⟩
    show s + (o + l * sz) + (m - l) * sz ≤ c.size
    have : l * sz + (m - l) * sz = m * sz := by rw [← Nat.add_mul]; congr 1; omega
    omega
theorem cutA_ok (h : MR X μ ρ B w M) {t : Nat} {x v : CV} {lo hi mx : Option Nat} (hl : cutA P M t x lo hi mx = .ok v) {ux : Value} (hx : CR μ ρ w ux x) {vl vh vm : Option Value} (h1 : BO vl lo) (h2 : BO vh hi) (h3 : BO vm mx) :
    ∃ u, (Instr.sliceAt t ux vl vh vm).run P w = .ok u w ∧ CR μ ρ w u v := by
  obtain ⟨d, hd, hl⟩ := bind_ok hl
  have hd := tyU_ok hd
  cases d with
  | slice e =>
    obtain ⟨i, hi', hl⟩ := bind_ok hl
    have hi' := tyI_ok hi'
    obtain ⟨hsz, hl⟩ := guardR_ok hl
    cases x with
    | sz =>
      have e' : ux = .slice none 0 0 := hx
      subst e'
      have key : mx = none ∧ lo.getD 0 = 0 ∧ hi.getD 0 = 0 ∧ v = .sz := by
        cases mx with
        | some m => cases lo <;> cases hi <;> cases hl
        | none =>
          cases lo with
          | none =>
            cases hi with
            | none => cases hl; exact ⟨rfl, rfl, rfl, rfl⟩
            | some n => obtain ⟨g1, g2⟩ := guardR_ok hl; cases g2; exact ⟨rfl, rfl, beq_true g1, rfl⟩
          | some m =>
            cases hi with
            | none => obtain ⟨g1, g2⟩ := guardR_ok hl; cases g2; exact ⟨rfl, beq_true g1, rfl, rfl⟩
            | some n => obtain ⟨g1, g2⟩ := guardR_ok hl; obtain ⟨g3, g4⟩ := guardR_ok g2; cases g4; exact ⟨rfl, beq_true g3, beq_true g1, rfl⟩
      obtain ⟨rfl, k1, k2, rfl⟩ := key
      cases vm with
      | some _ => exact h3.elim
      | none =>
        have hb := run_bounds2 (P := P) w true h1 h2 (len := 0) (cap := 0) (by omega) (by omega)
        rw [k1, k2] at hb
        exact ⟨_, run_cutS w hd hi' none 0 0 hb, by show _ = _; simp⟩
    | s b o len cap ex sz =>
      obtain ⟨k, s, c, hk, rfl, hex, hcap, hlen, hroom⟩ := hx
      have hsz := beq_true hsz
      subst hsz
      cases mx with
      | some m =>
        cases hi with
        | none => cases hl
        | some n =>
          obtain ⟨g1, hl⟩ := guardR_ok hl
          obtain ⟨g2, hl⟩ := guardR_ok hl
          obtain ⟨g3, hl⟩ := guardR_ok hl
          cases hl
          have g1 := ble_true g1
          have g2 := ble_true g2
          have g3 := ble_true g3
          have hb := run_bounds3 (P := P) w (len := len) (cap := c) h1 h2 h3 g3 g2 (by omega)
          refine ⟨_, run_cutS w hd hi' _ len c hb, ?_⟩
          have hroom' : Room w k (s + o + m * i.size) := by
            obtain ⟨cs, e', fr, q1, q2⟩ := hroom
            exact ⟨cs, e', fr, q1, Nat.le_trans (Nat.add_le_add_left (Nat.mul_le_mul_right _ (by omega)) _) q2⟩
          have := cut3_ok (ρ := ρ) (o := o) (l := lo.getD 0) hk g3 g2 hroom'
          simpa [addr_add] using this
      | none =>
        cases vm with
        | some _ => exact h3.elim
        | none =>
          obtain ⟨g1, hl⟩ := guardR_ok hl
          obtain ⟨g2, hl⟩ := guardR_ok hl
          cases hl
          have g1 := ble_true g1
          have g2 := ble_true g2
          have hb := run_bounds2 (P := P) w true (len := len) (cap := c) h1 h2 g2 (by omega)
          refine ⟨_, run_cutS w hd hi' _ len c hb, ?_⟩
          generalize lo.getD 0 = l at *
          generalize hi.getD len = n at *
          cases ex with
          | true =>
            have := hex rfl
            subst this
            have := cut3_ok (ρ := ρ) (o := o) (l := l) hk g2 g1 hroom
            simpa [addr_add] using this
          | false =>
            show CR μ ρ w _ (cutO b o cap i.size l n)
            unfold cutO
            cases hle : Nat.ble cap l with
            | true =>
              have := ble_true hle
              have hnl : n - l = 0 := by omega
              rw [hnl]
              by_cases hc : c = l
              · exact ⟨_, _, by rw [if_pos hc]⟩
              · exact ⟨_, _, by rw [if_neg hc]; rfl⟩
            | false =>
              have := ble_false hle
              rw [if_neg (by omega)]
              refine ⟨k, s, c - l, hk, by simp [addr_add, Nat.add_assoc], (fun e => by cases e), by show cap - l ≤ c - l; omega, by show n - l ≤ cap - l; omega, ?_⟩
              obtain ⟨cs, e', fr, q1, q2⟩ := hroom
              refine ⟨cs, e', fr, q1, ?_⟩
              have : l * i.size + (c - l) * i.size = c * i.size := by rw [← Nat.add_mul]; congr 1; omega
              show s + (o + l * i.size) + (c - l) * i.size ≤ cs.size
              omega
    | se =>
      obtain ⟨a, c, rfl⟩ := hx
      cases mx with
      | some m => cases hl
      | none =>
        cases vm with
        | some _ => exact h3.elim
        | none =>
          obtain ⟨g1, hl⟩ := guardR_ok hl
          obtain ⟨g2, hl⟩ := guardR_ok hl
          cases hl
          have g1 := beq_true g1
          have g2 := beq_true g2
          have hb := run_bounds2 (P := P) w true (len := 0) (cap := c) h1 h2 (by omega) (by omega)
          rw [g1, g2] at hb
          refine ⟨_, run_cutS w hd hi' _ 0 c hb, ?_⟩
          by_cases hc : c = 0
          · exact ⟨_, _, by rw [if_pos hc]⟩
          · exact ⟨_, _, by rw [if_neg hc]; rfl⟩
    | _ => cases hl
  | array n e =>
    cases x with
    | p b o =>
     obtain ⟨k, s, hk, rfl⟩ := hx
     obtain ⟨i, hi', hl⟩ := bind_ok hl
     have hi' := tyI_ok hi'
     obtain ⟨l0, hl0, hl⟩ := bind_ok hl
     obtain ⟨g9, hl⟩ := guardR_ok hl
     have g9 : 1 ≤ n * i.size := ble_true g9
     obtain ⟨g0, hl⟩ := guardR_ok hl
     obtain ⟨g1, hl⟩ := guardR_ok hl
     obtain ⟨g2, hl⟩ := guardR_ok hl
     cases hl
     have g1 := ble_true g1
     have g2 := ble_true g2
     have hmx : mx = none := by cases mx with | none => rfl | some _ => cases g0
     subst hmx
     cases vm with
     | some _ => exact h3.elim
     | none =>
       have hb := run_bounds2 (P := P) w false (len := n) (cap := n) h1 h2 g2 g1
       generalize lo.getD 0 = l at *
       generalize hi.getD n = m at *
       refine ⟨.slice (if n = l then some ⟨k, s + o, none⟩ else some ⟨k, s + o + l * i.size, none⟩) (m - l) (n - l), ?_, cut3_ok hk g2 g1 ?_⟩
       · simp only [Instr.sliceAt, Sem.run_bind, run_underlying hd, Result.andThen_ok, Instr.sureAddr, Sem.run_pure, hb, run_sizeOf hi', addr_add]
         by_cases hn : n = l <;> simp [hn]
       · obtain ⟨q1, vs, q2, q3⟩ := h.ldN hl0 hk
         unfold Go.Proofs.YtbmhamijoajnhaaGreat.E.ldN at hl0
         obtain ⟨c, hc, hl0⟩ := bind_ok hl0
         obtain ⟨_, cs, e', hrow, hcs⟩ := h.row (cellsOf_ok hc) hk
         obtain ⟨r1, r2⟩ := ldNc_ok hl0
         refine ⟨cs, e', (0, 0), hrow, ?_⟩
         obtain ⟨u, hu, _⟩ := hcs (o + (n * i.size - 1)) _ (r2 (n * i.size - 1) _ (List.getElem?_eq_getElem (by show n * i.size - 1 < _; rw [r1]; show _ < n * i.size; omega)))
         have := (Array.getElem?_eq_some_iff.1 hu).1
         show s + o + n * i.size ≤ cs.size
         omega
    | _ => cases hl
  | _ => cases hl
end
end Go.Proofs.YtbmhamijoajnhaaGreat.E
