/- The imports that the walks share, and small lemmas on bytes as numbers: nothing of the program. -/
import Derived.Test.YtpcfceodbemooaaProg
import Derived.Below
import Derived.Deep.Draws
import Derived.Deep.AppendLies
import Derived.Maps.AppendAt
import Derived.OwnWalk
import Derived.Laws.BytesArg
import Derived.Laws.MakeOwn
import Derived.Laws.OwnMore
import Derived.Deep.OwnRows
import Derived.Tactics
import Derived.Lib.ConvBytes
import Derived.Laws.Slices
import Derived.WalkKit
import Derived.KernelRfl
import Derived.RowKit3
import Derived.Deep.LoopGhost
import Derived.Deep.QuietTactic
import Derived.BigQuiet
import Derived.WideLaws
import Derived.Deep.DeepCutAuto
import Derived.Deep.CutBlock
import Derived.Deep.RegionHeld3
import Derived.Laws.Rows
import Derived.Lib.AppendStr
import Derived.ArgAppend
import Derived.Laws.IdiomCopy
import Derived.OrdersHeld
import Derived.Laws.BitsLemmas
import Derived.RowKit
import Derived.Lib.Bytes
import Derived.Test.YtpcfceodbemooaaWWords
import Derived.Test.YtpcfceodbemooaaWLast
import Derived.Test.YtpcfceodbemooaaWTab
import Derived.Test.YtpcfceodbemooaaWFour
import Derived.Test.YtpcfceodbemooaaWQPut
import Derived.Test.YtpcfceodbemooaaWApart
import Derived.Test.YtpcfceodbemooaaWArr
import Derived.Test.YtpcfceodbemooaaWZeros
import Derived.Test.YtpcfceodbemooaaWFoot
import Derived.Test.YtpcfceodbemooaaWKept
import Derived.Test.YtpcfceodbemooaaWShare
import Derived.Test.YtpcfceodbemooaaWN
import Derived.Test.YtpcfceodbemooaaWFootNe
import Derived.Test.YtpcfceodbemooaaWAt
import Derived.Test.YtpcfceodbemooaaWEqStruct
import Derived.Test.YtpcfceodbemooaaWRepsOne
import Derived.Test.YtpcfceodbemooaaWInv
import Derived.Test.YtpcfceodbemooaaWInvWords
import Derived.Test.YtpcfceodbemooaaWGuard
import Derived.Test.YtpcfceodbemooaaWNEv
import Derived.Test.YtpcfceodbemooaaWMore
namespace Go.Proofs.Ytpcfceodbemooaa.B
open Go.RowKit Go.Proofs.YtpcfceodbemooaaW.PrintWords Go.Proofs.YtpcfceodbemooaaW.PrintLast Go.Proofs.YtpcfceodbemooaaW.PrintMore

/-- Numbers that are bytes. -/
def IsB (l : List Int) : Prop := ∀ x ∈ l, 0 ≤ x ∧ x < 256
/-- Rows of them. -/
def IsBs (l : List (List Int)) : Prop := ∀ x ∈ l, IsB x
theorem IsB.nil : IsB [] := fun _ h => by cases h
theorem IsB.cons {x : Int} {l : List Int} (h0 : 0 ≤ x) (h1 : x < 256) (h : IsB l) : IsB (x :: l) := fun y hy => by
  rcases List.mem_cons.1 hy with rfl | hy
  · exact ⟨h0, h1⟩
  · exact h y hy
theorem IsB.append {a b : List Int} (h : IsB a) (k : IsB b) : IsB (a ++ b) := fun y hy => by
  rcases List.mem_append.1 hy with hy | hy
  · exact h y hy
  · exact k y hy
theorem IsB.take {a : List Int} (h : IsB a) (n : Nat) : IsB (a.take n) := fun y hy => h y (List.mem_of_mem_take hy)
theorem IsB.drop {a : List Int} (h : IsB a) (n : Nat) : IsB (a.drop n) := fun y hy => h y (List.mem_of_mem_drop hy)
theorem IsB.left {a b : List Int} (h : IsB (a ++ b)) : IsB a := fun y hy => h y (List.mem_append_left _ hy)
theorem IsB.right {a b : List Int} (h : IsB (a ++ b)) : IsB b := fun y hy => h y (List.mem_append_right _ hy)
theorem IsB.rd {a : List Int} (h : IsB a) (i : Int) : 0 ≤ rd a i ∧ rd a i < 256 := by
  unfold Go.Proofs.YtpcfceodbemooaaW.PrintWords.rd
  rw [List.getD_eq_getElem?_getD]
  rcases Nat.lt_or_ge i.toNat a.length with hl | hl
  · rw [List.getElem?_eq_getElem hl]
    exact h _ (List.getElem_mem hl)
  · rw [List.getElem?_eq_none hl]
    exact ⟨by decide, by decide⟩
theorem IsBs.nil : IsBs [] := fun _ h => by cases h
theorem IsBs.append {a b : List (List Int)} (h : IsBs a) (k : IsBs b) : IsBs (a ++ b) := fun y hy => by
  rcases List.mem_append.1 hy with hy | hy
  · exact h y hy
  · exact k y hy
theorem IsBs.one {a : List Int} (h : IsB a) : IsBs [a] := fun y hy => by rw [List.mem_singleton.1 hy]; exact h
theorem IsBs.getD {a : List (List Int)} (h : IsBs a) (i : Nat) : IsB (a.getD i []) := by
  rw [List.getD_eq_getElem?_getD]
  rcases Nat.lt_or_ge i a.length with hl | hl
  · rw [List.getElem?_eq_getElem hl]
    exact h _ (List.getElem_mem hl)
  · rw [List.getElem?_eq_none hl]
    exact IsB.nil

theorem toList_str (l : List Int) : (strOfNums l).toList = l.map fun n => UInt8.ofNat n.toNat := by
  rw [Lib.strOfNums_toList]; rfl
/-- Two strings of bytes are the same just when their numbers are. -/
theorem str_inj {a b : List Int} (ha : IsB a) (hb : IsB b) : (strOfNums a).toList = (strOfNums b).toList ↔ a = b := by
  rw [toList_str, toList_str]
  refine ⟨fun h => ?_, fun h => by rw [h]⟩
  induction a generalizing b with
  | nil => cases b with
    | nil => rfl
    | cons y b => simp at h
  | cons x a ih => cases b with
    | nil => simp at h
    | cons y b =>
      simp only [List.map_cons, List.cons.injEq] at h
      have hx := ha x (by simp)
      have hy := hb y (by simp)
      have e : x = y := by
        have h1 := congrArg UInt8.toNat h.1
        rw [UInt8.toNat_ofNat', UInt8.toNat_ofNat'] at h1
        omega
      rw [e, ih (fun z hz => ha z (by simp [hz])) (fun z hz => hb z (by simp [hz])) h.2]
theorem str_beq {a b : List Int} (ha : IsB a) (hb : IsB b) : ((strOfNums a).toList == (strOfNums b).toList) = decide (a = b) := by
  rw [Bool.eq_iff_iff, beq_iff_eq, decide_eq_true_iff]; exact str_inj ha hb
theorem str_bne {a b : List Int} (ha : IsB a) (hb : IsB b) : ((strOfNums a).toList != (strOfNums b).toList) = !decide (a = b) := by
  rw [bne, str_beq ha hb]

end Go.Proofs.Ytpcfceodbemooaa.B
