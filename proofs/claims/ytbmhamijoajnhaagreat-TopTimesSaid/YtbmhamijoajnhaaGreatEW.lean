/- A frame's run, cut into pieces: from a state that is written out to the next one, or to the end. Nothing of the program. -/
import Derived.Test.YtbmhamijoajnhaaGreatEV
namespace Go.Proofs.YtbmhamijoajnhaaGreat.E
open Go Go.RowKit
set_option linter.constructorNameAsVariable false
noncomputable section
/-- From here the frame goes on until it returns true. -/
def Good (P : Program) (fn : Func) (ρ : Nat → Int) (k : List Item) (t : PT AV) (M : Mem) : Prop :=
  ∀ (μ : Mu) (B : Nat) (b : Frame) (cs : List Frame) (a : Act) (w : World), TR fn.ntmps μ ρ w a t → MR (fun _ => False) μ ρ B w M → B ≤ w.heap.size → a.defers = [] →
    ∃ (a' : Act) (w' : World) (todo : List Item), Steps P (lone (b.at a k) cs w) (lone { b.at a' todo with mode := .returning } cs w') ∧ a'.defers = [] ∧ (results fn a'.tmps).run P w' = .ok (.bool true) w' ∧ Below B w w'
/-- So many steps. -/
def stepsX (P : Program) (F : Facts) (cl : CallT) (nt : Nat) (m : Nat) (s : St) : St := Nat.rec (motive := fun _ => St) s (fun _ ih => stepX P F cl nt ih) m
def segOut (F : Facts) (gs : List Nat) (ts : List (Nat × AV)) (bs : List (List CV)) (s : St) : List Item × Bool := match s with
  | .go k t M => (k, sameS F gs t M ts bs)
  | _ => ([], false)
variable {X : Nat → Prop} {P : Program} {F : Facts} {cl : CallT} {nt : Nat} {ρ : Nat → Int} {B : Nat} {μ : Mu} {w : World} {M : Mem} {a : Act} {t : PT AV} {fn : Func}
theorem steps_ok (hF : F.Sat ρ) (hcl : CallOK P F cl) (hm : P.follows .mixedOrders = true) (b : Frame) (cs : List Frame) (k : List Item) (hT : TR nt μ ρ w a t) (hM : MR X μ ρ B w M) (hB : B ≤ w.heap.size) :
    ∀ m, Goes X P nt μ ρ B b cs k a w (stepsX P F cl nt m (.go k t M))
  | 0 => ⟨a, w, .refl _ _, μ, hT, rfl, hM, Ste.refl B μ w⟩
  | m + 1 => by
    have h1 := steps_ok hF hcl hm b cs k hT hM hB m
    show Goes X P nt μ ρ B b cs k a w (stepX P F cl nt (stepsX P F cl nt m (.go k t M)))
    rw [stepX_eq]
    cases hs : stepsX P F cl nt m (.go k t M) with
    | bad y => trivial
    | ret t' M' => rw [hs] at h1; exact h1
    | go k' t' M' =>
      rw [hs] at h1
      obtain ⟨a', w', hst, μ', hT', hd, hM', hS⟩ := h1
      have h2 := step_ok hF hcl hm hT' hM' (Nat.le_trans hB hS.below.size) b cs k'
      cases hs2 : stepA P F cl nt (.go k' t' M') with
      | bad y => trivial
      | ret t2 M2 =>
        rw [hs2] at h2
        obtain ⟨a2, w2, todo, hst2, μ2, hT2, hd2, hM2, hS2⟩ := h2
        exact ⟨a2, w2, todo, hst.trans hst2, μ2, hT2, hd2.trans hd, hM2, hS.trans hS2⟩
      | go k2 t2 M2 =>
        rw [hs2] at h2
        obtain ⟨a2, w2, hst2, μ2, hT2, hd2, hM2, hS2⟩ := h2
        exact ⟨a2, w2, hst.trans hst2, μ2, hT2, hd2.trans hd, hM2, hS.trans hS2⟩
/-- On to the next state that is written out. -/
theorem Good.on {ad : Nat} {kn : Known} (hP : ProgOK P ad) (hkn : KnownOK P kn) (d m : Nat) {k k' : List Item} {gs : List Nat} {ts : List (Nat × AV)} {bs : List (List CV)} (hF : F.Sat ρ)
    (h : segOut F gs ts bs (stepsX P F (callX P F ad kn d) fn.ntmps m (.go k t M)) = (k', true)) (hG : Good P fn ρ k' (putTs ts) (memOf bs)) : Good P fn ρ k t M := by
  intro μ B b cs a w hT hM hB hd
  have hcl : CallOK P F (callX P F ad kn d) := by rw [callX_eq]; exact call_ok hP hkn d
  have h1 := steps_ok hF hcl hP.mixed b cs k hT hM hB m
  cases hs : stepsX P F (callX P F ad kn d) fn.ntmps m (.go k t M) with
  | bad y => rw [hs] at h; cases (Prod.mk.inj h).2
  | ret t' M' => rw [hs] at h; cases (Prod.mk.inj h).2
  | go k1 t' M' =>
    rw [hs] at h h1
    obtain ⟨rfl, h2⟩ := Prod.mk.inj h
    obtain ⟨a', w', hst, μ', hT', hd', hM', hS⟩ := h1
    obtain ⟨μ2, hT2, hM2⟩ := sameS_ok hF h2 hT' hM'
    obtain ⟨a2, w2, todo, hst2, hd2, hr, hb⟩ := hG μ2 B b cs a' w' hT2 hM2 (Nat.le_trans hB hS.below.size) (hd'.trans hd)
    exact ⟨a2, w2, todo, hst.trans hst2, hd2, hr, hS.below.trans hb⟩
/-- On to the end. -/
theorem Good.fin {ad : Nat} {kn : Known} (hP : ProgOK P ad) (hkn : KnownOK P kn) (d n : Nat) {k : List Item} (hF : F.Sat ρ) (h : isTrue (endA P fn (runX P F (callX P F ad kn d) fn.ntmps n (.go k t M))) = true) : Good P fn ρ k t M := by
  intro μ B b cs a w hT hM hB hd
  have hcl : CallOK P F (callX P F ad kn d) := by rw [callX_eq]; exact call_ok hP hkn d
  rw [runX_eq] at h
  have h1 := run_ok hF hcl hP.mixed b cs n k t M μ a w hT hM hB
  obtain ⟨M3, h⟩ := isTrue_ok h
  cases hs : runF P F (callX P F ad kn d) fn.ntmps n (.go k t M) with
  | bad y => rw [hs] at h; cases h
  | go k1 t' M' => rw [hs] at h; cases h
  | ret t' M' =>
    rw [hs] at h h1
    obtain ⟨v', hv', h⟩ := bind_ok (show ((resultsA P fn t' M').bind fun v => frc v fun v => .ok (v, M')) = .ok (.c (.b true), M3) from h)
    rw [frc_eq] at h
    obtain ⟨a', w', todo, hst, μ', hT', hd', hM', hS⟩ := h1
    obtain ⟨u, hu, hur⟩ := results_ok (P := P) hT' hM' hv'
    have hv2 := congrArg Prod.fst (ok_inj h)
    have hv2 : v' = .c (.b true) := hv2
    subst hv2
    have hur : u = .bool true := hur
    subst hur
    exact ⟨a', w', todo, hst, hd'.trans hd, hu, hS.below⟩
/-- A call whose frame is good. -/
theorem callP_of_good {ad f : Nat} {l : List AV} (hP : ProgOK P ad) (hf : P.funcs[f]? = some fn) {c : Code} (hc : fn.body = some c) (h : Good P fn ρ [.code c] (putArgs l 0 .lf) ⟨.lf, 0⟩) (w : World) {args : Array Value} (hargs : All2 (AR (fun _ => none) ρ w) args.toList l) :
    CallP P f args w fun u w' => u = .bool true ∧ Below w.heap.size w w' := by
  have hrun : (callFunc f args).run P w = .ok (.enter f args) w := by
    unfold callFunc
    have hn := hP.names f fn hf
    simp only [Sem.run_bind, run_program, Result.andThen_ok, hf, hn, hc]
    rfl
  unfold CallP
  rw [hrun]
  intro cs
  have hfr : Frame.enter P f args .normal = (Frame.enter P f args .normal).at ⟨(Frame.enter P f args .normal).tmps, []⟩ [.code c] := by
    unfold Frame.enter Frame.at
    simp [hf, hc]
  have htm : (Frame.enter P f args .normal).tmps = args ++ Array.replicate (fn.ntmps - args.size) undef := by
    unfold Frame.enter
    simp [hf]
  have hT : TR fn.ntmps (fun _ => none) ρ w ⟨(Frame.enter P f args .normal).tmps, []⟩ (putArgs l 0 .lf) := by
    refine ⟨by show fn.ntmps ≤ (Frame.enter P f args .normal).tmps.size; rw [htm, Array.size_append, Array.size_replicate]; omega, fun j x hj => ?_⟩
    rcases putArgs_get _ _ _ _ _ hj with ⟨_, h2⟩ | h2
    · obtain ⟨u, hu, hr⟩ := hargs.get _ _ h2
      refine ⟨u, ?_, hr⟩
      show (Frame.enter P f args .normal).tmps[j]? = some u
      rw [Nat.sub_zero, Array.getElem?_toList] at hu
      rw [htm, Array.getElem?_append_left (Array.getElem?_eq_some_iff.1 hu).1]
      exact hu
    · cases h2
  obtain ⟨a', w', todo, hst, hd, hu, hb⟩ := h (fun _ => none) w.heap.size (Frame.enter P f args .normal) cs ⟨(Frame.enter P f args .normal).tmps, []⟩ w hT (mr_none ρ w) (Nat.le_refl _) rfl
  refine ⟨.returned (.bool true), w', { (Frame.enter P f args .normal).at a' todo with mode := .returning }, ⟨rfl, hb⟩, ?_, rfl, rfl, hd, rfl, fn, hf, hu⟩
  show Steps P _ _
  rw [hfr]
  exact hst
theorem calls_of_good {ad f : Nat} {l : List AV} (hP : ProgOK P ad) (hf : P.funcs[f]? = some fn) {c : Code} (hc : fn.body = some c) (h : Good P fn ρ [.code c] (putArgs l 0 .lf) ⟨.lf, 0⟩) (w : World) {args : Array Value} (hargs : All2 (AR (fun _ => none) ρ w) args.toList l) :
    Calls P f args w fun e w' => e = .returned (.bool true) ∧ Below w.heap.size w w' :=
  Calls.mono (enter_of hf (hP.names f fn hf) (by rw [hc]; rfl) (callP_of_good hP hf hc h w hargs)) fun _ _ ⟨_, he, hu, hb⟩ => ⟨by rw [he, hu], hb⟩
/- The same, by values that a theorem of the kernel's may state. -/
def segV (P : Program) (ad : Nat) (kn : Known) (d : Nat) (fn : Func) (F : Facts) (m : Nat) (k : List Item) (t : PT AV) (M : Mem) (gs : List Nat) (ts : List (Nat × AV)) (bs : List (List CV)) : List Item × Bool :=
  segOut F gs ts bs (stepsX P F (callX P F ad kn d) fn.ntmps m (.go k t M))
def finV (P : Program) (ad : Nat) (kn : Known) (d : Nat) (fn : Func) (F : Facts) (n : Nat) (k : List Item) (t : PT AV) (M : Mem) : Bool := isTrue (endA P fn (runX P F (callX P F ad kn d) fn.ntmps n (.go k t M)))
theorem Good.seg {ad : Nat} {kn : Known} {d m : Nat} {k k' : List Item} {gs : List Nat} {ts : List (Nat × AV)} {bs : List (List CV)} (hP : ProgOK P ad) (hkn : KnownOK P kn) (h : segV P ad kn d fn F m k t M gs ts bs = (k', true)) (hF : F.Sat ρ)
    (hG : Good P fn ρ k' (putTs ts) (memOf bs)) : Good P fn ρ k t M := Good.on hP hkn d m hF h hG
theorem Good.finV {ad : Nat} {kn : Known} {d n : Nat} {k : List Item} (hP : ProgOK P ad) (hkn : KnownOK P kn) (h : E.finV P ad kn d fn F n k t M = true) (hF : F.Sat ρ) : Good P fn ρ k t M := Good.fin hP hkn d n hF h
end
end Go.Proofs.YtbmhamijoajnhaaGreat.E
