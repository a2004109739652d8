/-
  The pure side of the statement: the program's IdleDays and the reference's come to the same days and the same code, for all jobs, hands and plans.
-/
import Derived.Test.YthocaohlimollaaPureBase
namespace Go.Proofs.Ythocaohlimollaa.Pure
open Go.RowKit Go.Proofs.YthocaohlimollaaW.PrintWords Go.Proofs.YthocaohlimollaaW.PrintLast Go.Proofs.YthocaohlimollaaW.PrintMore Go.Proofs.Ythocaohlimollaa.XI Go.Proofs.Ythocaohlimollaa.PB
set_option linter.unusedVariables false
set_option linter.unusedSimpArgs false

def WS (l : List S70) : Prop := ∀ x ∈ l, -128 ≤ x.f0 ∧ x.f0 ≤ 127 ∧ -32768 ≤ x.f1 ∧ x.f1 ≤ 32767
theorem rdS_mem {l : List S70} {i : Int} (h0 : 0 ≤ i) (h1 : i < (l.length : Int)) : rd_T70 l i ∈ l := by
  simp only [rd_T70, List.getD_eq_getElem?_getD, List.getElem?_eq_getElem (show i.toNat < l.length by omega), Option.getD_some]
  exact List.getElem_mem _
def isSl (h : Int) (x : S70) : Bool := decide (0 ≤ x.f0 ∧ x.f0 ≤ h - 1) && decide (0 ≤ x.f1 ∧ x.f1 ≤ 1000)
theorem isSlot_f (h : Int) (x : S70) (hh : 1 ≤ h ∧ h ≤ 4) (hx : -128 ≤ x.f0 ∧ x.f0 ≤ 127 ∧ -32768 ≤ x.f1 ∧ x.f1 ≤ 32767) : impl_isSlot.f x.f0 x.f1 h = some (isSl h x) := by
  unfold impl_isSlot.f isSl
  rw [w64 (n := x.f0) (by omega) (by omega), w64 (n := x.f1) (by omega) (by omega), w64 (n := h - 1) (by omega) (by omega), within_f, Option.bind_some]
  by_cases h1 : 0 ≤ x.f0 ∧ x.f0 ≤ h - 1
  · simp [h1, within_f]
  · simp [h1]
theorem slot_f (h : Int) (x : S70) (hh : 1 ≤ h ∧ h ≤ 4) (hx : -128 ≤ x.f0 ∧ x.f0 ≤ 127 ∧ -32768 ≤ x.f1 ∧ x.f1 ≤ 32767) : spec_l07Slot.f h x.f0 x.f1 = some (isSl h x) := by
  unfold spec_l07Slot.f isSl
  rw [w64 (n := x.f0) (by omega) (by omega), w64 (n := x.f1) (by omega) (by omega), w64 (n := h - 1) (by omega) (by omega), in_f, Option.bind_some]
  by_cases h1 : 0 ≤ x.f0 ∧ x.f0 ≤ h - 1
  · simp [h1, in_f]
  · simp [h1]
def waitsP (l : List S66) (i k : Int) : Bool := Int.tmod (shr .u16 (rd_T66 l i).f1 k) 2 == 1
def doneP (l : List S66) (p : List S70) (k : Int) : Int := (rd_T70 p k).f1 + (rd_T66 l k).f0
theorem waitsI {l : List S66} {p : List S70} (hw : WJ l) (hp : WS p) (hlp : p.length = l.length) (hl : l.length ≤ 1048576) (i k : Int) (h0 : 0 ≤ i) (h1 : i < (l.length : Int)) (k0 : 0 ≤ k) : impl_Job_waits.f (rd_T66 l i).f0 (rd_T66 l i).f1 k = some (waitsP l i k) := by
  have hx := hw _ (rdJ_mem h0 h1)
  have hs := shr_range (rd_T66 l i).f1 k hx.2.2.1 hx.2.2.2
  unfold impl_Job_waits.f waitsP
  rw [if_pos k0, and_one _ hs.1 hs.2]
theorem waitsS {l : List S66} {p : List S70} (hw : WJ l) (hp : WS p) (hlp : p.length = l.length) (hl : l.length ≤ 1048576) (i k : Int) (h0 : 0 ≤ i) (h1 : i < (l.length : Int)) (k0 : 0 ≤ k) (k1 : k < (l.length : Int)) : spec_l07Waits.f l i k = some (waitsP l i k) := by
  unfold spec_l07Waits.f waitsP
  rw [if_pos h0, if_pos h1, wu64 (n := k) (by omega) (by omega), if_pos k0]
theorem done_of {l : List S66} {p : List S70} (hw : WJ l) (hp : WS p) (hlp : p.length = l.length) (hl : l.length ≤ 1048576) (i k : Int) (h0 : 0 ≤ i) (h1 : i < (l.length : Int)) (k0 : 0 ≤ k) (k1 : k < (l.length : Int)) : impl_done.f (rd_T66 l i).f0 (rd_T66 l i).f1 (rd_T70 p k).f0 (rd_T70 p k).f1 = some ((rd_T70 p k).f1 + (rd_T66 l i).f0) := by
  have hx := hw _ (rdJ_mem h0 h1)
  have hy := hp _ (rdS_mem (l := p) k0 (by omega))
  unfold impl_done.f
  rw [w64 (n := (rd_T70 p k).f1) (by omega) (by omega), w64 (n := (rd_T66 l i).f0) (by omega) (by omega), w64 (by omega) (by omega)]
theorem doneS {l : List S66} {p : List S70} (hw : WJ l) (hp : WS p) (hlp : p.length = l.length) (hl : l.length ≤ 1048576) (k : Int) (k0 : 0 ≤ k) (k1 : k < (l.length : Int)) : spec_l07Done.f l p k = some (doneP l p k) := by
  have hx := hw _ (rdJ_mem k0 k1)
  have hy := hp _ (rdS_mem (l := p) k0 (by omega))
  unfold spec_l07Done.f doneP
  rw [if_pos k0, if_pos (by omega), if_pos k1, w64 (n := (rd_T70 p k).f1) (by omega) (by omega), w64 (n := (rd_T66 l k).f0) (by omega) (by omega), w64 (by omega) (by omega)]

/-! ### is a slot wrong -/
def clashP (l : List S66) (p : List S70) (i k : Int) : Bool :=
  decide (k < i) && ((rd_T70 p k).f0 == (rd_T70 p i).f0) && decide ((rd_T70 p i).f1 < doneP l p k) && decide ((rd_T70 p k).f1 < doneP l p i)
def pairP (l : List S66) (h : Int) (p : List S70) (i k : Int) : Bool :=
  isSl h (rd_T70 p k) && ((waitsP l i k && decide ((rd_T70 p i).f1 < doneP l p k)) || clashP l p i k)
def badP (l : List S66) (h : Int) (p : List S70) (i : Int) : Bool := !(isSl h (rd_T70 p i)) || (iots l.length 0).any (pairP l h p i)
theorem implJ1 {l : List S66} {p : List S70} {h : Int} (hw : WJ l) (hp : WS p) (hlp : p.length = l.length) (hl : l.length ≤ 1048576) (hh : 1 ≤ h ∧ h ≤ 4) (i kk : Int) (i0 : 0 ≤ i) (i1 : i < (l.length : Int)) (k0 : 0 ≤ kk) (k1 : kk < (l.length : Int)) (b R : Bool) (hn : Ev (fun k => impl_wrong_1.l0 k i p (l.length : Int) (kk + 1) h l (rd_T70 p i).f0 (rd_T70 p i).f1) R) :
    Ev (fun k => impl_wrong_1.j1 k i kk p (l.length : Int) kk b h l (rd_T70 p i).f0 (rd_T70 p i).f1 (rd_T70 p kk).f0 (rd_T70 p kk).f1) (b || clashP l p i kk || R) := by
  have hi := hp _ (rdS_mem (l := p) i0 (by omega))
  have hk := hp _ (rdS_mem (l := p) k0 (by omega))
  refine Ev.step (fun _ => rfl) ?_
  simp only [impl_wrong_1.j1, w64 (n := kk + 1) (by omega) (by omega), w64 (n := (rd_T70 p i).f1) (by omega) (by omega), w64 (n := (rd_T70 p kk).f1) (by omega) (by omega), if_pos k0, if_pos k1, if_pos i0, if_pos i1, done_of hw hp hlp hl kk kk k0 k1 k0 k1, done_of hw hp hlp hl i i i0 i1 i0 i1, Option.bind_some]
  cases b with
  | true => simp only [if_true, Bool.true_or]; exact Ev.now _
  | false =>
    simp only [Bool.false_eq_true, if_false, Bool.false_or]
    by_cases c1 : kk < i
    · by_cases c2 : (rd_T70 p kk).f0 = (rd_T70 p i).f0
      · by_cases c3 : (rd_T70 p i).f1 < doneP l p kk
        · by_cases c4 : (rd_T70 p kk).f1 < doneP l p i
          · simp only [if_pos c1, if_pos c2, if_pos (show (rd_T70 p i).f1 < (rd_T70 p kk).f1 + (rd_T66 l kk).f0 from c3), if_pos (show (rd_T70 p kk).f1 < (rd_T70 p i).f1 + (rd_T66 l i).f0 from c4)]
            rw [show clashP l p i kk = true by simp [clashP, c1, c2, c3, c4]]
            exact Ev.now _
          · simp only [if_pos c1, if_pos c2, if_pos (show (rd_T70 p i).f1 < (rd_T70 p kk).f1 + (rd_T66 l kk).f0 from c3), if_neg (show ¬ (rd_T70 p kk).f1 < (rd_T70 p i).f1 + (rd_T66 l i).f0 from c4)]
            rw [show clashP l p i kk = false by simp [clashP, c4], Bool.false_or]
            exact hn
        · simp only [if_pos c1, if_pos c2, if_neg (show ¬ (rd_T70 p i).f1 < (rd_T70 p kk).f1 + (rd_T66 l kk).f0 from c3)]
          rw [show clashP l p i kk = false by simp [clashP, c3], Bool.false_or]
          exact hn
      · simp only [if_pos c1, if_neg c2]
        rw [show clashP l p i kk = false by simp [clashP, c2], Bool.false_or]
        exact hn
    · simp only [if_neg c1]
      rw [show clashP l p i kk = false by simp [clashP, c1], Bool.false_or]
      exact hn
theorem implL0 {l : List S66} {p : List S70} {h : Int} (hw : WJ l) (hp : WS p) (hlp : p.length = l.length) (hl : l.length ≤ 1048576) (hh : 1 ≤ h ∧ h ≤ 4) (i : Int) (i0 : 0 ≤ i) (i1 : i < (l.length : Int)) : ∀ (m : Nat) (kk : Int), 0 ≤ kk → kk + m = (l.length : Int) →
    Ev (fun k => impl_wrong_1.l0 k i p (l.length : Int) kk h l (rd_T70 p i).f0 (rd_T70 p i).f1) ((iots m kk).any (pairP l h p i)) := by
  intro m
  have hi := hp _ (rdS_mem (l := p) i0 (by omega))
  induction m with
  | zero =>
    intro kk k0 hk
    refine Ev.step (fun _ => rfl) ?_
    simp only [impl_wrong_1.l0, if_neg (show ¬ kk < (l.length : Int) by omega)]
    exact Ev.now _
  | succ m ih =>
    intro kk k0 hk
    have k1 : kk < (l.length : Int) := by omega
    have hkk := hp _ (rdS_mem (l := p) k0 (by omega))
    have hnext := ih (kk + 1) (by omega) (by omega)
    simp only [iots, List.any_cons]
    refine Ev.step (fun _ => rfl) ?_
    simp only [impl_wrong_1.l0, if_pos k1, if_pos k0, if_pos (show kk < (p.length : Int) by omega), isSlot_f h _ hh hkk, Option.bind_some, if_pos i0, if_pos i1, waitsI hw hp hlp hl i kk i0 i1 k0, done_of hw hp hlp hl kk kk k0 k1 k0 k1, w64 (n := kk + 1) (by omega) (by omega), w64 (n := (rd_T70 p i).f1) (by omega) (by omega)]
    cases hs : isSl h (rd_T70 p kk) with
    | false =>
      simp only [Bool.false_eq_true, if_false]
      rw [show pairP l h p i kk = false by simp [pairP, hs], Bool.false_or]
      exact hnext
    | true =>
      simp only [if_true]
      cases hwt : waitsP l i kk with
      | true =>
        simp only [if_true]
        have := implJ1 hw hp hlp hl hh i kk i0 i1 k0 k1 (decide ((rd_T70 p i).f1 < doneP l p kk)) _ hnext
        rw [show pairP l h p i kk = (decide ((rd_T70 p i).f1 < doneP l p kk) || clashP l p i kk) by simp [pairP, hs, hwt]]
        exact this
      | false =>
        simp only [Bool.false_eq_true, if_false]
        have := implJ1 hw hp hlp hl hh i kk i0 i1 k0 k1 false _ hnext
        rw [show pairP l h p i kk = (false || clashP l p i kk) by simp [pairP, hs, hwt]]
        exact this
theorem implBad {l : List S66} {p : List S70} {h : Int} (hw : WJ l) (hp : WS p) (hlp : p.length = l.length) (hl : l.length ≤ 1048576) (hh : 1 ≤ h ∧ h ≤ 4) (i : Int) (i0 : 0 ≤ i) (i1 : i < (l.length : Int)) : Ev (fun k => impl_wrong_1.f k i p h l) (badP l h p i) := by
  have hi := hp _ (rdS_mem (l := p) i0 (by omega))
  unfold impl_wrong_1.f badP
  simp only [if_pos i0, if_pos (show i < (p.length : Int) by omega), isSlot_f h _ hh hi, Option.bind_some]
  cases hs : isSl h (rd_T70 p i) with
  | false => simp only [Bool.false_eq_true, if_false, Bool.not_false, Bool.true_or]; exact Ev.now _
  | true =>
    simp only [if_true, Bool.not_true, Bool.false_or, hlp]
    exact implL0 hw hp hlp hl hh i i0 i1 l.length 0 (by omega) (by omega)
theorem wrong_ev {l : List S66} {p : List S70} {h : Int} (hw : WJ l) (hp : WS p) (hlp : p.length = l.length) (hl : l.length ≤ 1048576) (hh : 1 ≤ h ∧ h ≤ 4) : Ev (fun k => impl_wrong.f k l h p) (idxP (badP l h p) (iots l.length 0) 0) := by
  unfold impl_wrong.f
  refine Ev.bind (indices_ev l hl) ?_
  refine Ev.bind (a := idxP (badP l h p) (iots l.length 0) 0) ?_ (Ev.now _)
  unfold slices_IndexFunc_int_int_impl_wrong_1.f
  refine idxM_ev (q := fun k x => impl_wrong_1.f k x p h l) _ _ fun x hx => ?_
  have hx := (iots_mem _ _ _).1 hx
  exact implBad hw hp hlp hl hh x (by omega) (by omega)
theorem specJ2 {l : List S66} {p : List S70} {h : Int} (hw : WJ l) (hp : WS p) (hlp : p.length = l.length) (hl : l.length ≤ 1048576) (hh : 1 ≤ h ∧ h ≤ 4) (i kk : Int) (i0 : 0 ≤ i) (i1 : i < (l.length : Int)) (k0 : 0 ≤ kk) (k1 : kk < (l.length : Int)) (b : Bool) (R : Int) (hn : Ev (fun k => spec_l07Fault.l1 k l h p i (kk + 1)) R) :
    Ev (fun k => spec_l07Fault.j2 k l h p i kk b) (if (b || clashP l p i kk) = true then i else R) := by
  have hi := hp _ (rdS_mem (l := p) i0 (by omega))
  have hk := hp _ (rdS_mem (l := p) k0 (by omega))
  refine Ev.step (fun _ => rfl) ?_
  simp only [spec_l07Fault.j2, w64 (n := kk + 1) (by omega) (by omega), w64 (n := (rd_T70 p i).f1) (by omega) (by omega), w64 (n := (rd_T70 p kk).f1) (by omega) (by omega), if_pos k0, if_pos i0, if_pos (show kk < (p.length : Int) by omega), if_pos (show i < (p.length : Int) by omega), doneS hw hp hlp hl kk k0 k1, doneS hw hp hlp hl i i0 i1, Option.bind_some]
  cases b with
  | true => simp only [if_true, Bool.true_or]; exact Ev.now _
  | false =>
    simp only [Bool.false_eq_true, if_false, Bool.false_or]
    by_cases c1 : kk < i
    · by_cases c2 : (rd_T70 p kk).f0 = (rd_T70 p i).f0
      · by_cases c3 : (rd_T70 p i).f1 < doneP l p kk
        · by_cases c4 : (rd_T70 p kk).f1 < doneP l p i
          · simp only [if_pos c1, if_pos c2, if_pos c3, if_pos c4, show clashP l p i kk = true by simp [clashP, c1, c2, c3, c4], if_true]
            exact Ev.now _
          · simp only [if_pos c1, if_pos c2, if_pos c3, if_neg c4, show clashP l p i kk = false by simp [clashP, c4], Bool.false_eq_true, if_false]
            exact hn
        · simp only [if_pos c1, if_pos c2, if_neg c3, show clashP l p i kk = false by simp [clashP, c3], Bool.false_eq_true, if_false]
          exact hn
      · simp only [if_pos c1, if_neg c2, show clashP l p i kk = false by simp [clashP, c2], Bool.false_eq_true, if_false]
        exact hn
    · simp only [if_neg c1, show clashP l p i kk = false by simp [clashP, c1], Bool.false_eq_true, if_false]
      exact hn
theorem specL1 {l : List S66} {p : List S70} {h : Int} (hw : WJ l) (hp : WS p) (hlp : p.length = l.length) (hl : l.length ≤ 1048576) (hh : 1 ≤ h ∧ h ≤ 4) (i : Int) (i0 : 0 ≤ i) (i1 : i < (l.length : Int)) (R : Int) (hn : Ev (fun k => spec_l07Fault.l0 k l h p (i + 1)) R) : ∀ (m : Nat) (kk : Int), 0 ≤ kk → kk + m = (l.length : Int) →
    Ev (fun k => spec_l07Fault.l1 k l h p i kk) (if (iots m kk).any (pairP l h p i) = true then i else R) := by
  intro m
  have hi := hp _ (rdS_mem (l := p) i0 (by omega))
  induction m with
  | zero =>
    intro kk k0 hk
    refine Ev.step (fun _ => rfl) ?_
    simp only [spec_l07Fault.l1, if_neg (show ¬ kk < (l.length : Int) by omega), w64 (n := i + 1) (by omega) (by omega), iots, List.any_nil, Bool.false_eq_true, if_false]
    exact hn
  | succ m ih =>
    intro kk k0 hk
    have k1 : kk < (l.length : Int) := by omega
    have hkk := hp _ (rdS_mem (l := p) k0 (by omega))
    have hnext := ih (kk + 1) (by omega) (by omega)
    show Ev _ (if (pairP l h p i kk || (iots m (kk + 1)).any (pairP l h p i)) = true then i else R)
    refine Ev.step (fun _ => rfl) ?_
    simp only [spec_l07Fault.l1, if_pos k1, if_pos k0, if_pos (show kk < (p.length : Int) by omega), slot_f h _ hh hkk, Option.bind_some, if_pos i0, if_pos (show i < (p.length : Int) by omega), waitsS hw hp hlp hl i kk i0 i1 k0 k1, doneS hw hp hlp hl kk k0 k1, w64 (n := kk + 1) (by omega) (by omega), w64 (n := (rd_T70 p i).f1) (by omega) (by omega)]
    cases hs : isSl h (rd_T70 p kk) with
    | false =>
      simp only [Bool.false_eq_true, if_false, show pairP l h p i kk = false by simp [pairP, hs], Bool.false_or]
      exact hnext
    | true =>
      simp only [if_true]
      have e : ∀ (b : Bool) (x y : Int), (if b = true then i else (if (iots m (kk + 1)).any (pairP l h p i) = true then i else R)) = (if (b || (iots m (kk + 1)).any (pairP l h p i)) = true then i else R) := by intro b _ _; cases b <;> simp
      cases hwt : waitsP l i kk with
      | true =>
        simp only [if_true]
        have := specJ2 hw hp hlp hl hh i kk i0 i1 k0 k1 (decide ((rd_T70 p i).f1 < doneP l p kk)) _ hnext
        rw [show pairP l h p i kk = (decide ((rd_T70 p i).f1 < doneP l p kk) || clashP l p i kk) by simp [pairP, hs, hwt], ← e _ 0 0]
        exact this
      | false =>
        simp only [Bool.false_eq_true, if_false]
        have := specJ2 hw hp hlp hl hh i kk i0 i1 k0 k1 false _ hnext
        rw [show pairP l h p i kk = (false || clashP l p i kk) by simp [pairP, hs, hwt], ← e _ 0 0]
        exact this
theorem fault_ev {l : List S66} {p : List S70} {h : Int} (hw : WJ l) (hp : WS p) (hlp : p.length = l.length) (hl : l.length ≤ 1048576) (hh : 1 ≤ h ∧ h ≤ 4) : Ev (fun k => spec_l07Fault.f k l h p) (idxP (badP l h p) (iots l.length 0) 0) := by
  have key : ∀ (m : Nat) (i : Int), 0 ≤ i → i + m = (l.length : Int) → Ev (fun k => spec_l07Fault.l0 k l h p i) (idxP (badP l h p) (iots m i) i) := by
    intro m
    induction m with
    | zero =>
      intro i i0 hi
      refine Ev.step (fun _ => rfl) ?_
      simp only [spec_l07Fault.l0, if_neg (show ¬ i < (l.length : Int) by omega)]
      exact Ev.now _
    | succ m ih =>
      intro i i0 hi
      have i1 : i < (l.length : Int) := by omega
      have hpi := hp _ (rdS_mem (l := p) i0 (by omega))
      simp only [iots, idxP]
      refine Ev.step (fun _ => rfl) ?_
      simp only [spec_l07Fault.l0, if_pos i1, if_pos i0, if_pos (show i < (p.length : Int) by omega), slot_f h _ hh hpi, Option.bind_some]
      cases hs : isSl h (rd_T70 p i) with
      | false =>
        simp only [Bool.false_eq_true, if_false, show badP l h p i = true by simp [badP, hs], if_true]
        exact Ev.now _
      | true =>
        simp only [if_true, show badP l h p i = (iots l.length 0).any (pairP l h p i) by simp [badP, hs]]
        exact specL1 hw hp hlp hl hh i i0 i1 _ (ih (i + 1) (by omega) (by omega)) l.length 0 (by omega) (by omega)
  exact key l.length 0 (by omega) (by omega)

/-! ### the code of a plan -/
def planP (l : List S66) (h : Int) (p : List S70) : Bool := decide (p.length = l.length) && decide (idxP (badP l h p) (iots l.length 0) 0 < 0)
def codeP (l : List S66) (h : Int) (p : List S70) : Int := if okJ l = true then (if 1 ≤ h ∧ h ≤ 4 then (if planP l h p = true then 0 else 1) else 2) else 1
theorem hands_f (h : Int) : impl_isHands.f h = some (decide (1 ≤ h ∧ h ≤ 4)) := by unfold impl_isHands.f; rw [within_f]; rfl
theorem hands_s (h : Int) : spec_l07Hands.f h = some (decide (1 ≤ h ∧ h ≤ 4)) := by unfold spec_l07Hands.f; rw [in_f]; rfl
theorem planned_ev {l : List S66} {p : List S70} (hw : WJ l) (hp : WS p) (hl : l.length ≤ 1048576) (h : Int) : Ev (fun k => spec_l07Planned.f k l h p) (codeP l h p) := by
  unfold spec_l07Planned.f codeP
  refine Ev.bind (ok_ev l hw hl) ?_
  cases hok : okJ l with
  | false => simp only [Bool.false_eq_true, if_false]; exact Ev.now _
  | true =>
    simp only [if_true, hands_s, Option.bind_some]
    by_cases hh : 1 ≤ h ∧ h ≤ 4
    · simp only [decide_eq_true hh, if_true, if_pos hh]
      refine Ev.bind (a := planP l h p) ?_ ?_
      · unfold spec_l07Plan.f planP
        by_cases hlp : p.length = l.length
        · simp only [if_pos (show (p.length : Int) = (l.length : Int) by omega), decide_eq_true hlp, Bool.true_and]
          exact Ev.bind (fault_ev hw hp hlp hl hh) (Ev.now _)
        · simp only [if_neg (show ¬ (p.length : Int) = (l.length : Int) by omega), decide_eq_false hlp, Bool.false_and]
          exact Ev.now _
      · cases planP l h p <;> exact Ev.now _
    · simp only [decide_eq_false hh, Bool.false_eq_true, if_false, if_neg hh]
      exact Ev.now _
theorem slots_ev {l : List S66} {p : List S70} (hw : WJ l) (hp : WS p) (hl : l.length ≤ 1048576) (h : Int) (hh : 1 ≤ h ∧ h ≤ 4) (hok : okJ l = true) : Ev (fun k => impl_ValidSlots.f k l h p) (planP l h p) := by
  unfold impl_ValidSlots.f planP
  refine Ev.bind (valid_ev l hw hl) ?_
  simp only [hok, if_true, hands_f, Option.bind_some, decide_eq_true hh]
  by_cases hlp : p.length = l.length
  · simp only [if_pos (show (p.length : Int) = (l.length : Int) by omega), decide_eq_true hlp, Bool.true_and]
    exact Ev.bind (wrong_ev hw hp hlp hl hh) (Ev.now _)
  · simp only [if_neg (show ¬ (p.length : Int) = (l.length : Int) by omega), decide_eq_false hlp, Bool.false_and]
    exact Ev.now _
theorem planCode_ev {l : List S66} {p : List S70} (hw : WJ l) (hp : WS p) (hl : l.length ≤ 1048576) (h : Int) : Ev (fun k => impl_planCode.f k l h p) (codeP l h p) := by
  unfold impl_planCode.f codeP
  refine Ev.bind (valid_ev l hw hl) ?_
  simp only [hands_f, Option.bind_some, impl_codeOf.f]
  cases hok : okJ l with
  | false => simp only [Bool.false_eq_true, if_false, Option.bind_some]; exact Ev.now _
  | true =>
    by_cases hh : 1 ≤ h ∧ h ≤ 4
    · simp only [decide_eq_true hh, if_true, Option.bind_some, if_pos hh]
      refine Ev.bind (slots_ev hw hp hl h hh hok) ?_
      cases planP l h p <;> exact Ev.now _
    · simp only [decide_eq_false hh, Bool.false_eq_true, if_true, if_false, Option.bind_some, if_neg hh]
      exact Ev.now _

/-! ### the length of a plan -/
def lenP (l : List S66) (p : List S70) : Nat → Int → Int → Int
  | 0, _, a => a
  | m + 1, i, a => lenP l p m (i + 1) (mx a (doneP l p i))
theorem max_f (a b : Int) : spec_l00Max.f a b = some (mx a b) := by
  unfold spec_l00Max.f
  by_cases h : a > b
  · rw [if_pos h]; congr 1; unfold mx; rw [if_neg (by omega)]
  · rw [if_neg h]; congr 1; unfold mx
    by_cases h2 : a < b
    · rw [if_pos h2]
    · rw [if_neg h2]; omega
theorem lengthI {l : List S66} {p : List S70} (hw : WJ l) (hp : WS p) (hlp : p.length = l.length) (hl : l.length ≤ 1048576) : Ev (fun k => impl_lengthOf.f k l p) (lenP l p l.length 0 0) := by
  have key : ∀ (m : Nat) (i a : Int), 0 ≤ i → i + m = (l.length : Int) → Ev (fun k => impl_lengthOf.l0 k p a l (l.length : Int) i) (lenP l p m i a) := by
    intro m
    induction m with
    | zero =>
      intro i a i0 hi
      refine Ev.step (fun _ => rfl) ?_
      simp only [impl_lengthOf.l0, if_neg (show ¬ i < (l.length : Int) by omega)]
      exact Ev.now _
    | succ m ih =>
      intro i a i0 hi
      have i1 : i < (l.length : Int) := by omega
      refine Ev.step (fun _ => rfl) ?_
      simp only [impl_lengthOf.l0, if_pos i1, if_pos i0, if_pos (show i < (p.length : Int) by omega), done_of hw hp hlp hl i i i0 i1 i0 i1, Option.bind_some, w64 (n := i + 1) (by omega) (by omega)]
      exact ih (i + 1) _ (by omega) (by omega)
  exact key l.length 0 0 (by omega) (by omega)
theorem lengthS {l : List S66} {p : List S70} (hw : WJ l) (hp : WS p) (hlp : p.length = l.length) (hl : l.length ≤ 1048576) : Ev (fun k => spec_l07Length.f k l p) (lenP l p l.length 0 0) := by
  have key : ∀ (m : Nat) (i a : Int), 0 ≤ i → i + m = (l.length : Int) → Ev (fun k => spec_l07Length.l0 k l p a i) (lenP l p m i a) := by
    intro m
    induction m with
    | zero =>
      intro i a i0 hi
      refine Ev.step (fun _ => rfl) ?_
      simp only [spec_l07Length.l0, if_neg (show ¬ i < (l.length : Int) by omega)]
      exact Ev.now _
    | succ m ih =>
      intro i a i0 hi
      have i1 : i < (l.length : Int) := by omega
      refine Ev.step (fun _ => rfl) ?_
      simp only [spec_l07Length.l0, if_pos i1, doneS hw hp hlp hl i i0 i1, Option.bind_some, max_f, w64 (n := i + 1) (by omega) (by omega)]
      exact ih (i + 1) _ (by omega) (by omega)
  exact key l.length 0 0 (by omega) (by omega)

/-! ### idle days -/
theorem idle_loop {l : List S66} {p : List S70} (hlp : p.length = l.length) (hl : l.length ≤ 1048576) (h : Nat) (hs : ∀ i, 0 ≤ i → i < (l.length : Int) → 0 ≤ (rd_T70 p i).f0 ∧ (rd_T70 p i).f0 < (h : Int)) :
    ∀ (m : Nat) (i : Int) (out : List Int), 0 ≤ i → i + m = (l.length : Int) → out.length = h → ∃ r, r.length = h ∧ Ev (fun k => impl_IdleDays.l0 k p out l (l.length : Int) i) (r, 0) ∧ Ev (fun k => spec_IdleDays.l1 k l p out i) (r, 0) := by
  intro m
  induction m with
  | zero =>
    intro i out i0 hi ho
    refine ⟨out, ho, ?_, ?_⟩
    · refine Ev.step (fun _ => rfl) ?_
      simp only [impl_IdleDays.l0, if_neg (show ¬ i < (l.length : Int) by omega)]
      exact Ev.now _
    · refine Ev.step (fun _ => rfl) ?_
      simp only [spec_IdleDays.l1, if_neg (show ¬ i < (l.length : Int) by omega)]
      exact Ev.now _
  | succ m ih =>
    intro i out i0 hi ho
    have i1 : i < (l.length : Int) := by omega
    obtain ⟨s0, s1⟩ := hs i i0 i1
    obtain ⟨r, r1, r2, r3⟩ := ih (i + 1) (out.set (((rd_T70 p i).f0) : Int).toNat (wrap64 ((rd out ((rd_T70 p i).f0)) - (wrap64 ((rd_T66 l i).f0))))) (by omega) (by omega) (by rw [List.length_set]; exact ho)
    refine ⟨r, r1, ?_, ?_⟩
    · refine Ev.step (fun _ => rfl) ?_
      simp only [impl_IdleDays.l0, if_pos i1, if_pos i0, if_pos (show i < (p.length : Int) by omega), if_pos s0, if_pos (show (rd_T70 p i).f0 < (out.length : Int) by omega), w64 (n := i + 1) (by omega) (by omega)]
      exact r2
    · refine Ev.step (fun _ => rfl) ?_
      simp only [spec_IdleDays.l1, if_pos i1, if_pos i0, if_pos (show i < (p.length : Int) by omega), if_pos s0, if_pos (show (rd_T70 p i).f0 < (out.length : Int) by omega), w64 (n := i + 1) (by omega) (by omega)]
      exact r3
theorem idle_both {l : List S66} {p : List S70} (hw : WJ l) (hp : WS p) (hl : l.length ≤ 1048576) (h : Int) :
    ∃ r : List Int × Int, Ev (fun k => impl_IdleDays.f k l h p) r ∧ Ev (fun k => spec_IdleDays.f k l h p) r ∧ r.1.length ≤ 4 := by
  by_cases hc : codeP l h p = 0
  · have hok : okJ l = true := by
      cases h2 : okJ l with
      | true => rfl
      | false => simp [codeP, h2] at hc
    have hh : 1 ≤ h ∧ h ≤ 4 := by
      apply Classical.byContradiction
      intro h2
      simp [codeP, hok, h2] at hc
    have hpl : planP l h p = true := by
      cases h2 : planP l h p with
      | true => rfl
      | false => simp [codeP, hok, hh, h2] at hc
    obtain ⟨h1, h2⟩ := Bool.and_eq_true_iff.1 hpl
    have hlp := of_decide_eq_true h1
    have hneg := of_decide_eq_true h2
    have hany : (iots l.length 0).any (badP l h p) = false := by
      rw [← idxP_any _ _ 0 (Int.le_refl _)]
      exact decide_eq_false (by omega)
    have hs : ∀ i, 0 ≤ i → i < (l.length : Int) → 0 ≤ (rd_T70 p i).f0 ∧ (rd_T70 p i).f0 < (h.toNat : Int) := by
      intro i i0 i1
      have hb := List.any_eq_false.1 hany i ((iots_mem _ _ _).2 (by omega))
      have hsl : isSl h (rd_T70 p i) = true := by
        cases h3 : isSl h (rd_T70 p i) with
        | true => rfl
        | false => simp [badP, h3] at hb
      have := of_decide_eq_true (Bool.and_eq_true_iff.1 hsl).1
      omega
    obtain ⟨r, r1, r2, r3⟩ := idle_loop hlp hl h.toNat hs l.length 0 (List.replicate h.toNat (lenP l p l.length 0 0)) (by omega) (by omega) (List.length_replicate ..)
    refine ⟨(r, 0), ?_, ?_, by show r.length ≤ 4; omega⟩
    · unfold impl_IdleDays.f
      refine Ev.bind (planCode_ev hw hp hl h) ?_
      simp only [hc, if_true]
      refine Ev.bind (lengthI hw hp hlp hl) ?_
      have e : slices_Repeat_int64_int64.f [lenP l p l.length 0 0] h = some (List.replicate h.toNat (lenP l p l.length 0 0)) := by
        simp only [slices_Repeat_int64_int64.f, if_pos hh]
      simp only [e, Option.bind_some]
      exact r2
    · unfold spec_IdleDays.f
      refine Ev.bind (planned_ev hw hp hl h) ?_
      simp only [hc, if_true]
      have key : ∀ (m : Nat) (c : Nat), c + m = h.toNat → Ev (fun k => spec_IdleDays.l0 k l h p (List.replicate c (lenP l p l.length 0 0)) (c : Int)) (r, 0) := by
        intro m
        induction m with
        | zero =>
          intro c hcm
          refine Ev.step (fun _ => rfl) ?_
          simp only [spec_IdleDays.l0, if_neg (show ¬ (c : Int) < h by omega)]
          rw [show c = h.toNat by omega]
          exact r3
        | succ m ih =>
          intro c hcm
          refine Ev.step (fun _ => rfl) ?_
          simp only [spec_IdleDays.l0, if_pos (show (c : Int) < h by omega)]
          refine Ev.bind (lengthS hw hp hlp hl) ?_
          simp only [List.length_replicate, if_pos (show c < 17592186044416 by omega), w64 (n := (c : Int) + 1) (by omega) (by omega)]
          have := ih (c + 1) (by omega)
          rw [List.replicate_succ', show ((c + 1 : Nat) : Int) = (c : Int) + 1 by omega] at this
          exact this
      have := key h.toNat 0 (by omega)
      simpa using this
  · refine ⟨([], codeP l h p), ?_, ?_, by simp⟩
    · unfold impl_IdleDays.f
      refine Ev.bind (planCode_ev hw hp hl h) ?_
      simp only [if_neg hc]
      exact Ev.now _
    · unfold spec_IdleDays.f
      refine Ev.bind (planned_ev hw hp hl h) ?_
      simp only [if_neg hc]
      exact Ev.now _
/-! ### what the laws do beside: lists put over, compared, marked, looked at -/
theorem toJobs_ev (x : List S74) (hl : x.length ≤ 1048576) : Ev (fun k => laws_toJobS.f k x) (x.map fun y => (⟨y.f0, y.f1⟩ : S66)) := by
  have key : ∀ (m : Nat) (i : Int) (out : List S66), 0 ≤ i → i + m = (x.length : Int) → out.length = x.length → (out.take i.toNat = (x.map fun y => (⟨y.f0, y.f1⟩ : S66)).take i.toNat) → Ev (fun k => laws_toJobS.l0 k x out i) (x.map fun y => (⟨y.f0, y.f1⟩ : S66)) := by
    intro m
    induction m with
    | zero =>
      intro i out i0 hi ho ht
      refine Ev.step (fun _ => rfl) ?_
      simp only [laws_toJobS.l0, if_neg (show ¬ i < (x.length : Int) by omega)]
      rw [List.take_of_length_le (by omega), List.take_of_length_le (by rw [List.length_map]; omega)] at ht
      rw [ht]
      exact Ev.now _
    | succ m ih =>
      intro i out i0 hi ho ht
      have hlt : i.toNat < x.length := by omega
      refine Ev.step (fun _ => rfl) ?_
      simp only [laws_toJobS.l0, if_pos (show i < (x.length : Int) by omega), if_pos i0, laws_toJob.f, Option.bind_some, if_pos (show i < (out.length : Int) by omega), w64 (n := i + 1) (by omega) (by omega)]
      refine ih (i + 1) _ (by omega) (by omega) (by rw [List.length_set]; exact ho) ?_
      rw [show (i + 1).toNat = i.toNat + 1 by omega, List.take_add_one, List.take_add_one, List.take_set_of_le (by omega), ht]
      congr 1
      rw [List.getElem?_set_self (by omega), List.getElem?_map, List.getElem?_eq_getElem hlt]
      simp [rd_T74, List.getD_eq_getElem?_getD, List.getElem?_eq_getElem hlt]
  unfold laws_toJobS.f
  simp only [if_pos (show 0 ≤ (x.length : Int) by omega), if_pos (show (x.length : Int).toNat ≤ 70368744177664 by omega)]
  exact key x.length 0 _ (by omega) (by omega) (by simp) (by simp)
theorem eqJobs_self (x : List S66) (hl : x.length ≤ 1048576) : Ev (fun k => laws_eqJobS.f k x x) true := by
  have key : ∀ (m : Nat) (i : Int), 0 ≤ i → i + m = (x.length : Int) → Ev (fun k => laws_eqJobS.l0 k x x i) true := by
    intro m
    induction m with
    | zero =>
      intro i i0 hi
      refine Ev.step (fun _ => rfl) ?_
      simp only [laws_eqJobS.l0, if_neg (show ¬ i < (x.length : Int) by omega)]
      exact Ev.now _
    | succ m ih =>
      intro i i0 hi
      refine Ev.step (fun _ => rfl) ?_
      simp only [laws_eqJobS.l0, if_pos (show i < (x.length : Int) by omega), if_pos i0, laws_eqJob.f, if_true, Option.bind_some, w64 (n := i + 1) (by omega) (by omega)]
      exact ih (i + 1) (by omega) (by omega)
  unfold laws_eqJobS.f
  simp only [if_true]
  exact key x.length 0 (by omega) (by omega)
theorem markJobs (x : List S66) (a : Int) (hl : x.length ≤ 1048576) (ha0 : 0 ≤ a) (ha1 : a ≤ 100000000) : ∃ y, Ev (fun k => laws_markJobS.f k x a) (a + 2 * (x.length : Int), y) := by
  have key : ∀ (m : Nat) (i b : Int) (z : List S66), 0 ≤ i → i + m = (z.length : Int) → z.length ≤ 1048576 → 0 ≤ b → b + 2 * m ≤ 1000000000 → ∃ y, Ev (fun k => laws_markJobS.l0 k z b i) (b + 2 * (m : Int), y) := by
    intro m
    induction m with
    | zero =>
      intro i b z i0 hi hz hb0 hb1
      refine ⟨z, Ev.step (fun _ => rfl) ?_⟩
      simp only [laws_markJobS.l0, if_neg (show ¬ i < (z.length : Int) by omega)]
      rw [show b + 2 * ((0 : Nat) : Int) = b by omega]
      exact Ev.now _
    | succ m ih =>
      intro i b z i0 hi hz hb0 hb1
      obtain ⟨y, hy⟩ := ih (i + 1) (b + 1 + 1) ((z.set i.toNat (⟨IntKind.i8.wrap b, (rd_T66 z i).f1⟩ : S66)).set i.toNat (⟨(rd_T66 (z.set i.toNat (⟨IntKind.i8.wrap b, (rd_T66 z i).f1⟩ : S66)) i).f0, IntKind.u16.wrap (b + 1)⟩ : S66)) (by omega) (by rw [List.length_set, List.length_set]; omega) (by rw [List.length_set, List.length_set]; exact hz) (by omega) (by omega)
      refine ⟨y, Ev.step (fun _ => rfl) ?_⟩
      simp only [laws_markJobS.l0, if_pos (show i < (z.length : Int) by omega), if_pos i0, Option.bind_some, w64 (n := b + 1) (by omega) (by omega), w64 (n := b + 1 + 1) (by omega) (by omega), w64 (n := i + 1) (by omega) (by omega)]
      rw [show b + 2 * ((m + 1 : Nat) : Int) = b + 1 + 1 + 2 * (m : Int) by omega]
      exact hy
  exact key x.length 0 a x (by omega) (by omega) hl ha0 (by omega)

theorem toSlots_ev (x : List S82) (hl : x.length ≤ 1048576) : Ev (fun k => laws_toSlotS.f k x) (x.map fun y => (⟨y.f0, y.f1⟩ : S70)) := by
  have key : ∀ (m : Nat) (i : Int) (out : List S70), 0 ≤ i → i + m = (x.length : Int) → out.length = x.length → (out.take i.toNat = (x.map fun y => (⟨y.f0, y.f1⟩ : S70)).take i.toNat) → Ev (fun k => laws_toSlotS.l0 k x out i) (x.map fun y => (⟨y.f0, y.f1⟩ : S70)) := by
    intro m
    induction m with
    | zero =>
      intro i out i0 hi ho ht
      refine Ev.step (fun _ => rfl) ?_
      simp only [laws_toSlotS.l0, if_neg (show ¬ i < (x.length : Int) by omega)]
      rw [List.take_of_length_le (by omega), List.take_of_length_le (by rw [List.length_map]; omega)] at ht
      rw [ht]
      exact Ev.now _
    | succ m ih =>
      intro i out i0 hi ho ht
      have hlt : i.toNat < x.length := by omega
      refine Ev.step (fun _ => rfl) ?_
      simp only [laws_toSlotS.l0, if_pos (show i < (x.length : Int) by omega), if_pos i0, laws_toSlot.f, Option.bind_some, if_pos (show i < (out.length : Int) by omega), w64 (n := i + 1) (by omega) (by omega)]
      refine ih (i + 1) _ (by omega) (by omega) (by rw [List.length_set]; exact ho) ?_
      rw [show (i + 1).toNat = i.toNat + 1 by omega, List.take_add_one, List.take_add_one, List.take_set_of_le (by omega), ht]
      congr 1
      rw [List.getElem?_set_self (by omega), List.getElem?_map, List.getElem?_eq_getElem hlt]
      simp [rd_T82, List.getD_eq_getElem?_getD, List.getElem?_eq_getElem hlt]
  unfold laws_toSlotS.f
  simp only [if_pos (show 0 ≤ (x.length : Int) by omega), if_pos (show (x.length : Int).toNat ≤ 70368744177664 by omega)]
  exact key x.length 0 _ (by omega) (by omega) (by simp) (by simp)
theorem eqSlots_self (x : List S70) (hl : x.length ≤ 1048576) : Ev (fun k => laws_eqSlotS.f k x x) true := by
  have key : ∀ (m : Nat) (i : Int), 0 ≤ i → i + m = (x.length : Int) → Ev (fun k => laws_eqSlotS.l0 k x x i) true := by
    intro m
    induction m with
    | zero =>
      intro i i0 hi
      refine Ev.step (fun _ => rfl) ?_
      simp only [laws_eqSlotS.l0, if_neg (show ¬ i < (x.length : Int) by omega)]
      exact Ev.now _
    | succ m ih =>
      intro i i0 hi
      refine Ev.step (fun _ => rfl) ?_
      simp only [laws_eqSlotS.l0, if_pos (show i < (x.length : Int) by omega), if_pos i0, laws_eqSlot.f, if_true, Option.bind_some, w64 (n := i + 1) (by omega) (by omega)]
      exact ih (i + 1) (by omega) (by omega)
  unfold laws_eqSlotS.f
  simp only [if_true]
  exact key x.length 0 (by omega) (by omega)
theorem markSlots (x : List S70) (a : Int) (hl : x.length ≤ 1048576) (ha0 : 0 ≤ a) (ha1 : a ≤ 100000000) : ∃ y, Ev (fun k => laws_markSlotS.f k x a) (a + 2 * (x.length : Int), y) := by
  have key : ∀ (m : Nat) (i b : Int) (z : List S70), 0 ≤ i → i + m = (z.length : Int) → z.length ≤ 1048576 → 0 ≤ b → b + 2 * m ≤ 1000000000 → ∃ y, Ev (fun k => laws_markSlotS.l0 k z b i) (b + 2 * (m : Int), y) := by
    intro m
    induction m with
    | zero =>
      intro i b z i0 hi hz hb0 hb1
      refine ⟨z, Ev.step (fun _ => rfl) ?_⟩
      simp only [laws_markSlotS.l0, if_neg (show ¬ i < (z.length : Int) by omega)]
      rw [show b + 2 * ((0 : Nat) : Int) = b by omega]
      exact Ev.now _
    | succ m ih =>
      intro i b z i0 hi hz hb0 hb1
      obtain ⟨y, hy⟩ := ih (i + 1) (b + 1 + 1) ((z.set i.toNat (⟨IntKind.i8.wrap b, (rd_T70 z i).f1⟩ : S70)).set i.toNat (⟨(rd_T70 (z.set i.toNat (⟨IntKind.i8.wrap b, (rd_T70 z i).f1⟩ : S70)) i).f0, IntKind.i16.wrap (b + 1)⟩ : S70)) (by omega) (by rw [List.length_set, List.length_set]; omega) (by rw [List.length_set, List.length_set]; exact hz) (by omega) (by omega)
      refine ⟨y, Ev.step (fun _ => rfl) ?_⟩
      simp only [laws_markSlotS.l0, if_pos (show i < (z.length : Int) by omega), if_pos i0, Option.bind_some, w64 (n := b + 1) (by omega) (by omega), w64 (n := b + 1 + 1) (by omega) (by omega), w64 (n := i + 1) (by omega) (by omega)]
      rw [show b + 2 * ((m + 1 : Nat) : Int) = b + 1 + 1 + 2 * (m : Int) by omega]
      exact hy
  exact key x.length 0 a x (by omega) (by omega) hl ha0 (by omega)

theorem eqInts_self (x : List Int) (hl : x.length ≤ 1048576) : Ev (fun k => laws_eqInt64S.f k x x) true := by
  have key : ∀ (m : Nat) (i : Int), 0 ≤ i → i + m = (x.length : Int) → Ev (fun k => laws_eqInt64S.l0 k x x i) true := by
    intro m
    induction m with
    | zero =>
      intro i i0 hi
      refine Ev.step (fun _ => rfl) ?_
      simp only [laws_eqInt64S.l0, if_neg (show ¬ i < (x.length : Int) by omega)]
      exact Ev.now _
    | succ m ih =>
      intro i i0 hi
      refine Ev.step (fun _ => rfl) ?_
      simp only [laws_eqInt64S.l0, if_pos (show i < (x.length : Int) by omega), if_pos i0, if_true, w64 (n := i + 1) (by omega) (by omega)]
      exact ih (i + 1) (by omega) (by omega)
  unfold laws_eqInt64S.f
  simp only [if_true]
  exact key x.length 0 (by omega) (by omega)
theorem markInts (x : List Int) (hl : x.length ≤ 1048576) : ∃ y, Ev (fun k => laws_markInt64S.f k x 1) (1 + (x.length : Int), y) ∧ Ev (fun k => laws_heldInt64S.f k y 1) (1 + (x.length : Int)) := by
  have key : ∀ (m : Nat) (i b : Int) (z : List Int), 0 ≤ i → i + m = (z.length : Int) → z.length ≤ 1048576 → 0 ≤ b → b + m ≤ 1000000000 →
      ∃ y, Ev (fun k => laws_markInt64S.l0 k z b i) (b + (m : Int), y) ∧ y.length = z.length ∧ (∀ j, j < i.toNat → y.getD j 0 = z.getD j 0) ∧ Ev (fun k => laws_heldInt64S.l0 k y b i) (b + (m : Int)) := by
    intro m
    induction m with
    | zero =>
      intro i b z i0 hi hz hb0 hb1
      refine ⟨z, ?_, rfl, fun _ _ => rfl, ?_⟩
      · refine Ev.step (fun _ => rfl) ?_
        simp only [laws_markInt64S.l0, if_neg (show ¬ i < (z.length : Int) by omega)]
        rw [show b + ((0 : Nat) : Int) = b by omega]
        exact Ev.now _
      · refine Ev.step (fun _ => rfl) ?_
        simp only [laws_heldInt64S.l0, if_neg (show ¬ i < (z.length : Int) by omega)]
        rw [show b + ((0 : Nat) : Int) = b by omega]
        exact Ev.now _
    | succ m ih =>
      intro i b z i0 hi hz hb0 hb1
      obtain ⟨y, h1, h2, h3, h4⟩ := ih (i + 1) (b + 1) (z.set i.toNat b) (by omega) (by rw [List.length_set]; omega) (by rw [List.length_set]; exact hz) (by omega) (by omega)
      rw [List.length_set] at h2
      rw [show b + 1 + (m : Int) = b + ((m + 1 : Nat) : Int) by omega] at h1 h4
      refine ⟨y, ?_, h2, fun j hj => ?_, ?_⟩
      · refine Ev.step (fun _ => rfl) ?_
        simp only [laws_markInt64S.l0, if_pos (show i < (z.length : Int) by omega), if_pos i0, w64 (n := b + 1) (by omega) (by omega), w64 (n := i + 1) (by omega) (by omega)]
        exact h1
      · rw [h3 j (by omega)]
        simp [List.getD_eq_getElem?_getD, List.getElem?_set, show ¬ i.toNat = j by omega]
      · have hv : rd y i = b := by
          have := h3 i.toNat (by omega)
          simp only [List.getD_eq_getElem?_getD, List.getElem?_set, if_true, if_pos (show i.toNat < z.length by omega), Option.getD_some] at this
          simp only [rd, List.getD_eq_getElem?_getD]
          exact this
        refine Ev.step (fun _ => rfl) ?_
        simp only [laws_heldInt64S.l0, if_pos (show i < (y.length : Int) by omega), if_pos i0, hv, if_true, w64 (n := b + 1) (by omega) (by omega), w64 (n := i + 1) (by omega) (by omega)]
        exact h4
  obtain ⟨y, h1, _, _, h4⟩ := key x.length 0 1 x (by omega) (by omega) hl (by omega) (by omega)
  exact ⟨y, h1, h4⟩
theorem szJobs_f (x : List S74) (n : Int) (hl : (x.length : Int) ≤ 9000000000000000000) (hn0 : 0 ≤ n) (hn1 : n ≤ 1048576) : laws_szJobS.f x n = some (if n - (x.length : Int) < 0 then -1 else n - (x.length : Int)) := by
  unfold laws_szJobS.f
  rw [w64 (by omega) (by omega)]
  split <;> rfl
theorem szSlots_f (x : List S82) (n : Int) (hl : (x.length : Int) ≤ 9000000000000000000) (hn0 : 0 ≤ n) (hn1 : n ≤ 1048576) : laws_szSlotS.f x n = some (if n - (x.length : Int) < 0 then -1 else n - (x.length : Int)) := by
  unfold laws_szSlotS.f
  rw [w64 (by omega) (by omega)]
  split <;> rfl
theorem wf8 {n : Int} (h : (Lit.int .i8 n).wf = true) : -128 ≤ n ∧ n ≤ 127 := by
  simp only [Lit.wf, Bool.and_eq_true, decide_eq_true_eq] at h
  exact h
theorem wf16 {n : Int} (h : (Lit.int .i16 n).wf = true) : -32768 ≤ n ∧ n ≤ 32767 := by
  simp only [Lit.wf, Bool.and_eq_true, decide_eq_true_eq] at h
  exact h
theorem wfu16 {n : Int} (h : (Lit.int .u16 n).wf = true) : 0 ≤ n ∧ n ≤ 65535 := by
  simp only [Lit.wf, Bool.and_eq_true, decide_eq_true_eq] at h
  exact h

theorem FnExactIdleDays : laws_FnExactIdleDays.Pure := by
  intro x h q hx1 hx2 hx3 hh hq1 hq2 hq3
  have hxl : (x.length : Int) ≤ 9000000000000000000 := by omega
  have hql : (q.length : Int) ≤ 9000000000000000000 := by omega
  unfold laws_FnExactIdleDays.f
  simp only [szJobs_f x 1048576 hxl (by omega) (by omega), Option.bind_some]
  by_cases c1 : (1048576 : Int) - (x.length : Int) < 0
  · simp only [if_pos c1, show ((-1 : Int) < 0) = True from eq_true (by omega), if_true]
    exact ⟨0, by first | rfl | trivial⟩
  simp only [if_neg c1, szSlots_f q (1048576 - (x.length : Int)) hql (by omega) (by omega), Option.bind_some]
  by_cases c2 : (1048576 : Int) - (x.length : Int) - (q.length : Int) < 0
  · simp only [if_pos c2, show ((-1 : Int) < 0) = True from eq_true (by omega), if_true]
    exact ⟨0, by first | rfl | trivial⟩
  simp only [if_neg c2]
  have hxn : x.length ≤ 1048576 := by omega
  have hqn : q.length ≤ 1048576 := by omega
  obtain ⟨l, hl⟩ : ∃ l, l = x.map fun y => (⟨y.f0, y.f1⟩ : S66) := ⟨_, rfl⟩
  obtain ⟨p, hp⟩ : ∃ p, p = q.map fun y => (⟨y.f0, y.f1⟩ : S70) := ⟨_, rfl⟩
  have hll : l.length ≤ 1048576 := by rw [hl, List.length_map]; exact hxn
  have hpl : p.length ≤ 1048576 := by rw [hp, List.length_map]; exact hqn
  have hw : WJ l := by
    intro y hy
    rw [hl] at hy
    obtain ⟨z, hz, rfl⟩ := List.mem_map.1 hy
    obtain ⟨h1, h2⟩ := hx3 z hz
    have := wf8 h1
    have := wfu16 h2
    exact ⟨by show _ ≤ z.f0; omega, by show z.f0 ≤ _; omega, by show _ ≤ z.f1; omega, by show z.f1 ≤ _; omega⟩
  have hs : WS p := by
    intro y hy
    rw [hp] at hy
    obtain ⟨z, hz, rfl⟩ := List.mem_map.1 hy
    obtain ⟨h1, h2⟩ := hq3 z hz
    have := wf8 h1
    have := wf16 h2
    exact ⟨by show _ ≤ z.f0; omega, by show z.f0 ≤ _; omega, by show _ ≤ z.f1; omega, by show z.f1 ≤ _; omega⟩
  have tj := toJobs_ev x hxn
  have ts := toSlots_ev q hqn
  rw [← hl] at tj
  rw [← hp] at ts
  obtain ⟨⟨r, c⟩, hi, hsp, hr⟩ := idle_both hw hs hll h
  have hr4 : r.length ≤ 4 := hr
  obtain ⟨m1, e1⟩ := markJobs l 1 hll (by omega) (by omega)
  obtain ⟨m2, e2⟩ := markSlots p (1 + 2 * (l.length : Int)) hpl (by omega) (by omega)
  obtain ⟨m3, e3, e4⟩ := markInts r (by omega)
  have er := eqInts_self r (by omega)
  have last : Ev (fun k => laws_FnExactIdleDays.j2 k m3 (1 + (r.length : Int)) (c != c)) true := by
    refine Ev.step (fun _ => rfl) ?_
    simp only [laws_FnExactIdleDays.j2, bne_self_eq_false, Bool.false_eq_true, if_false]
    refine Ev.bind e4 ?_
    simp only [if_neg (show ¬ 1 + (r.length : Int) < 0 by omega), if_true]
    exact Ev.now _
  have mid : Ev (fun k => laws_FnExactIdleDays.j1 k x h q r c r (c != c)) true := by
    refine Ev.step (fun _ => rfl) ?_
    simp only [laws_FnExactIdleDays.j1, bne_self_eq_false, Bool.false_eq_true, if_false]
    refine Ev.bind e3 ?_
    refine Ev.bind e4 ?_
    simp only [if_neg (show ¬ 1 + (r.length : Int) < 0 by omega), if_true]
    refine Ev.bind tj ?_
    refine Ev.bind ts ?_
    refine Ev.bind hi ?_
    refine Ev.bind er ?_
    simp only [if_true]
    first | exact last | (simp only [bne_self_eq_false] at last; exact last)
  have first : Ev (fun k => laws_FnExactIdleDays.j0 k x h q r c l p r c (c != c)) true := by
    refine Ev.step (fun _ => rfl) ?_
    simp only [laws_FnExactIdleDays.j0, bne_self_eq_false, Bool.false_eq_true, if_false]
    refine Ev.bind tj ?_
    refine Ev.bind (eqJobs_self l hll) ?_
    simp only [if_true]
    refine Ev.bind ts ?_
    refine Ev.bind (eqSlots_self p hpl) ?_
    simp only [if_true]
    refine Ev.bind e1 ?_
    refine Ev.bind e2 ?_
    simp only [if_neg (show ¬ 1 + 2 * (l.length : Int) + 2 * (p.length : Int) < 0 by omega)]
    refine Ev.bind er ?_
    simp only [if_true]
    first | exact mid | (simp only [bne_self_eq_false] at mid; exact mid)
  have all : Ev (fun k => (laws_toJobS.f k x).bind fun t378 => (laws_toSlotS.f k q).bind fun t381 => (spec_IdleDays.f k t378 h t381).bind fun bt384 => (laws_toJobS.f k x).bind fun t388 => (laws_toSlotS.f k q).bind fun t391 => (impl_IdleDays.f k t388 h t391).bind fun bt394 => (laws_eqInt64S.f k bt394.1 bt384.1).bind fun t398 => if t398 = true then laws_FnExactIdleDays.j0 k x h q bt384.1 bt384.2 t388 t391 bt394.1 bt394.2 (bt394.2 != bt384.2) else laws_FnExactIdleDays.j0 k x h q bt384.1 bt384.2 t388 t391 bt394.1 bt394.2 true) true := by
    refine Ev.bind tj ?_
    refine Ev.bind ts ?_
    refine Ev.bind hsp ?_
    refine Ev.bind tj ?_
    refine Ev.bind ts ?_
    refine Ev.bind hi ?_
    refine Ev.bind er ?_
    simp only [if_true]
    first | exact first | (simp only [bne_self_eq_false] at first; exact first)
  obtain ⟨k, hk⟩ := all
  exact ⟨k, hk k (Nat.le_refl _)⟩
end Go.Proofs.Ythocaohlimollaa.Pure
