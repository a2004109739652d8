/-
  The pure side of the statement: the program's BestPlan and the reference's come to the same plan, length and code, for all jobs, hands and budgets.
-/
import Derived.Test.YthocaohlimollaaPureLook
namespace Go.Proofs.Ythocaohlimollaa.Pure
open Go.RowKit Go.Proofs.YthocaohlimollaaW.PrintWords Go.Proofs.YthocaohlimollaaW.PrintLast Go.Proofs.YthocaohlimollaaW.PrintMore Go.Proofs.Ythocaohlimollaa.XB Go.Proofs.Ythocaohlimollaa.PB Go.Proofs.Ythocaohlimollaa.PL
set_option linter.unusedVariables false
set_option linter.unusedSimpArgs false
theorem toJobs_ev (x : List S74) (hl : x.length ≤ 1048576) : Ev (fun k => laws_toJobS.f k x) (x.map fun y => (⟨y.f0, y.f1⟩ : S66)) := by
  have key : ∀ (m : Nat) (i : Int) (out : List S66), 0 ≤ i → i + m = (x.length : Int) → out.length = x.length → (out.take i.toNat = (x.map fun y => (⟨y.f0, y.f1⟩ : S66)).take i.toNat) → Ev (fun k => laws_toJobS.l0 k x out i) (x.map fun y => (⟨y.f0, y.f1⟩ : S66)) := by
    intro m
    induction m with
    | zero =>
      intro i out i0 hi ho ht
      refine Ev.step (fun _ => rfl) ?_
      simp only [laws_toJobS.l0, if_neg (show ¬ i < (x.length : Int) by omega)]
      rw [List.take_of_length_le (by omega), List.take_of_length_le (by rw [List.length_map]; omega)] at ht
      rw [ht]
      exact Ev.now _
    | succ m ih =>
      intro i out i0 hi ho ht
      have hlt : i.toNat < x.length := by omega
      refine Ev.step (fun _ => rfl) ?_
      simp only [laws_toJobS.l0, if_pos (show i < (x.length : Int) by omega), if_pos i0, laws_toJob.f, Option.bind_some, if_pos (show i < (out.length : Int) by omega), w64 (n := i + 1) (by omega) (by omega)]
      refine ih (i + 1) _ (by omega) (by omega) (by rw [List.length_set]; exact ho) ?_
      rw [show (i + 1).toNat = i.toNat + 1 by omega, List.take_add_one, List.take_add_one, List.take_set_of_le (by omega), ht]
      congr 1
      rw [List.getElem?_set_self (by omega), List.getElem?_map, List.getElem?_eq_getElem hlt]
      simp [rd_T74, List.getD_eq_getElem?_getD, List.getElem?_eq_getElem hlt]
  unfold laws_toJobS.f
  simp only [if_pos (show 0 ≤ (x.length : Int) by omega), if_pos (show (x.length : Int).toNat ≤ 70368744177664 by omega)]
  exact key x.length 0 _ (by omega) (by omega) (by simp) (by simp)
theorem eqJobs_self (x : List S66) (hl : x.length ≤ 1048576) : Ev (fun k => laws_eqJobS.f k x x) true := by
  have key : ∀ (m : Nat) (i : Int), 0 ≤ i → i + m = (x.length : Int) → Ev (fun k => laws_eqJobS.l0 k x x i) true := by
    intro m
    induction m with
    | zero =>
      intro i i0 hi
      refine Ev.step (fun _ => rfl) ?_
      simp only [laws_eqJobS.l0, if_neg (show ¬ i < (x.length : Int) by omega)]
      exact Ev.now _
    | succ m ih =>
      intro i i0 hi
      refine Ev.step (fun _ => rfl) ?_
      simp only [laws_eqJobS.l0, if_pos (show i < (x.length : Int) by omega), if_pos i0, laws_eqJob.f, if_true, Option.bind_some, w64 (n := i + 1) (by omega) (by omega)]
      exact ih (i + 1) (by omega) (by omega)
  unfold laws_eqJobS.f
  simp only [if_true]
  exact key x.length 0 (by omega) (by omega)
theorem szJobs_f (x : List S74) (n : Int) (hl : (x.length : Int) ≤ 9000000000000000000) (hn0 : 0 ≤ n) (hn1 : n ≤ 1048576) : laws_szJobS.f x n = some (if n - (x.length : Int) < 0 then -1 else n - (x.length : Int)) := by
  unfold laws_szJobS.f
  rw [w64 (by omega) (by omega)]
  split <;> rfl
theorem wf8 {n : Int} (h : (Lit.int .i8 n).wf = true) : -128 ≤ n ∧ n ≤ 127 := by
  simp only [Lit.wf, Bool.and_eq_true, decide_eq_true_eq] at h
  exact h
theorem wfu16 {n : Int} (h : (Lit.int .u16 n).wf = true) : 0 ≤ n ∧ n ≤ 65535 := by
  simp only [Lit.wf, Bool.and_eq_true, decide_eq_true_eq] at h
  exact h
theorem markJobs (x : List S66) (a : Int) (hl : x.length ≤ 1048576) (ha0 : 0 ≤ a) (ha1 : a ≤ 100000000) : ∃ y, Ev (fun k => laws_markJobS.f k x a) (a + 2 * (x.length : Int), y) := by
  have key : ∀ (m : Nat) (i b : Int) (z : List S66), 0 ≤ i → i + m = (z.length : Int) → z.length ≤ 1048576 → 0 ≤ b → b + 2 * m ≤ 1000000000 → ∃ y, Ev (fun k => laws_markJobS.l0 k z b i) (b + 2 * (m : Int), y) := by
    intro m
    induction m with
    | zero =>
      intro i b z i0 hi hz hb0 hb1
      refine ⟨z, Ev.step (fun _ => rfl) ?_⟩
      simp only [laws_markJobS.l0, if_neg (show ¬ i < (z.length : Int) by omega)]
      rw [show b + 2 * ((0 : Nat) : Int) = b by omega]
      exact Ev.now _
    | succ m ih =>
      intro i b z i0 hi hz hb0 hb1
      obtain ⟨y, hy⟩ := ih (i + 1) (b + 1 + 1) ((z.set i.toNat (⟨IntKind.i8.wrap b, (rd_T66 z i).f1⟩ : S66)).set i.toNat (⟨(rd_T66 (z.set i.toNat (⟨IntKind.i8.wrap b, (rd_T66 z i).f1⟩ : S66)) i).f0, IntKind.u16.wrap (b + 1)⟩ : S66)) (by omega) (by rw [List.length_set, List.length_set]; omega) (by rw [List.length_set, List.length_set]; exact hz) (by omega) (by omega)
      refine ⟨y, Ev.step (fun _ => rfl) ?_⟩
      simp only [laws_markJobS.l0, if_pos (show i < (z.length : Int) by omega), if_pos i0, Option.bind_some, w64 (n := b + 1) (by omega) (by omega), w64 (n := b + 1 + 1) (by omega) (by omega), w64 (n := i + 1) (by omega) (by omega)]
      rw [show b + 2 * ((m + 1 : Nat) : Int) = b + 1 + 1 + 2 * (m : Int) by omega]
      exact hy
  exact key x.length 0 a x (by omega) (by omega) hl ha0 (by omega)

theorem eqSlots_self (x : List S70) (hl : x.length ≤ 1048576) : Ev (fun k => laws_eqSlotS.f k x x) true := by
  have key : ∀ (m : Nat) (i : Int), 0 ≤ i → i + m = (x.length : Int) → Ev (fun k => laws_eqSlotS.l0 k x x i) true := by
    intro m
    induction m with
    | zero =>
      intro i i0 hi
      refine Ev.step (fun _ => rfl) ?_
      simp only [laws_eqSlotS.l0, if_neg (show ¬ i < (x.length : Int) by omega)]
      exact Ev.now _
    | succ m ih =>
      intro i i0 hi
      refine Ev.step (fun _ => rfl) ?_
      simp only [laws_eqSlotS.l0, if_pos (show i < (x.length : Int) by omega), if_pos i0, laws_eqSlot.f, if_true, Option.bind_some, w64 (n := i + 1) (by omega) (by omega)]
      exact ih (i + 1) (by omega) (by omega)
  unfold laws_eqSlotS.f
  simp only [if_true]
  exact key x.length 0 (by omega) (by omega)
theorem markSlots (x : List S70) (hl : x.length ≤ 1048576) : ∃ y, Ev (fun k => laws_markSlotS.f k x 1) (1 + 2 * (x.length : Int), y) ∧ Ev (fun k => laws_heldSlotS.f k y 1) (1 + 2 * (x.length : Int)) := by
  have key : ∀ (m : Nat) (i b : Int) (z : List S70), 0 ≤ i → i + m = (z.length : Int) → z.length ≤ 1048576 → 0 ≤ b → b + 2 * m ≤ 1000000000 →
      ∃ y, Ev (fun k => laws_markSlotS.l0 k z b i) (b + 2 * (m : Int), y) ∧ y.length = z.length ∧ (∀ j, j < i.toNat → y.getD j z70 = z.getD j z70) ∧ Ev (fun k => laws_heldSlotS.l0 k y b i) (b + 2 * (m : Int)) := by
    intro m
    induction m with
    | zero =>
      intro i b z i0 hi hz hb0 hb1
      refine ⟨z, ?_, rfl, fun _ _ => rfl, ?_⟩
      · refine Ev.step (fun _ => rfl) ?_
        simp only [laws_markSlotS.l0, if_neg (show ¬ i < (z.length : Int) by omega)]
        rw [show b + 2 * ((0 : Nat) : Int) = b by omega]
        exact Ev.now _
      · refine Ev.step (fun _ => rfl) ?_
        simp only [laws_heldSlotS.l0, if_neg (show ¬ i < (z.length : Int) by omega)]
        rw [show b + 2 * ((0 : Nat) : Int) = b by omega]
        exact Ev.now _
    | succ m ih =>
      intro i b z i0 hi hz hb0 hb1
      obtain ⟨y, h1, h2, h3, h4⟩ := ih (i + 1) (b + 1 + 1) ((z.set i.toNat (⟨IntKind.i8.wrap b, (rd_T70 z i).f1⟩ : S70)).set i.toNat (⟨(rd_T70 (z.set i.toNat (⟨IntKind.i8.wrap b, (rd_T70 z i).f1⟩ : S70)) i).f0, IntKind.i16.wrap (b + 1)⟩ : S70)) (by omega) (by rw [List.length_set, List.length_set]; omega) (by rw [List.length_set, List.length_set]; exact hz) (by omega) (by omega)
      rw [List.length_set, List.length_set] at h2
      rw [show b + 1 + 1 + 2 * (m : Int) = b + 2 * ((m + 1 : Nat) : Int) by omega] at h1 h4
      refine ⟨y, ?_, h2, fun j hj => ?_, ?_⟩
      · refine Ev.step (fun _ => rfl) ?_
        simp only [laws_markSlotS.l0, if_pos (show i < (z.length : Int) by omega), if_pos i0, Option.bind_some, List.length_set, w64 (n := b + 1) (by omega) (by omega), w64 (n := b + 1 + 1) (by omega) (by omega), w64 (n := i + 1) (by omega) (by omega)]
        exact h1
      · rw [h3 j (by omega)]
        simp [List.getD_eq_getElem?_getD, List.getElem?_set, show ¬ i.toNat = j by omega]
      · have hv := h3 i.toNat (by omega)
        have e1 : rd_T70 (z.set i.toNat (⟨IntKind.i8.wrap b, (rd_T70 z i).f1⟩ : S70)) i = ⟨IntKind.i8.wrap b, (rd_T70 z i).f1⟩ := rdS_set_eq i0 (by omega)
        have hv2 : rd_T70 y i = ⟨IntKind.i8.wrap b, IntKind.i16.wrap (b + 1)⟩ := by
          have e2 : rd_T70 y i = y.getD i.toNat z70 := rfl
          rw [e2, hv, e1]
          exact rdS_set_eq (p := z.set i.toNat _) (i := i) i0 (by rw [List.length_set]; omega)
        refine Ev.step (fun _ => rfl) ?_
        simp only [laws_heldSlotS.l0, if_pos (show i < (y.length : Int) by omega), if_pos i0, hv2, if_true, w64 (n := b + 1) (by omega) (by omega), w64 (n := b + 1 + 1) (by omega) (by omega), w64 (n := i + 1) (by omega) (by omega)]
        exact h4
  obtain ⟨y, h1, _, _, h4⟩ := key x.length 0 1 x (by omega) (by omega) hl (by omega) (by omega)
  exact ⟨y, h1, h4⟩
theorem hands_f (h : Int) : impl_isHands.f h = some (decide (1 ≤ h ∧ h ≤ 4)) := by unfold impl_isHands.f; rw [within_f]; rfl
theorem plan_both {l : List S66} (hw : WJ l) (hl : l.length ≤ 1048576) (h bu : Int) : ∃ (pl : List S70) (n c : Int), Ev (fun k => impl_BestPlan.f k l h bu) (pl, n, c) ∧ Ev (fun k => spec_BestPlan.f k l h bu) (pl, n, c) ∧ pl.length ≤ 12 := by
  have hv := valid_ev l hw hl
  have ha := asked_ev l hw hl h
  by_cases hin : okJ l = true ∧ (1 ≤ h ∧ h ≤ 4) ∧ (0 ≤ bu ∧ bu ≤ 20000)
  · obtain ⟨hok, hh, hb⟩ := hin
    obtain ⟨pl, n, _, _, ok, e1, e2, e3⟩ := best_both' hw hok h bu hh hb
    rw [hok] at hv
    have sp : Ev (fun k => spec_BestPlan.f k l h bu) (if ok = true then (pl, n, 0) else ([], 0, 7)) := by
      unfold spec_BestPlan.f
      refine Ev.bind e2 ?_
      cases ok <;> exact Ev.now _
    have im : Ev (fun k => impl_BestPlan.f k l h bu) (if ok = true then (pl, n, 0) else ([], 0, 7)) := by
      unfold impl_BestPlan.f
      refine Ev.bind hv ?_
      simp only [hands_f, within_f, Option.bind_some, impl_codeOf.f, decide_eq_true hh, decide_eq_true hb, if_true]
      refine Ev.step (fun _ => rfl) ?_
      simp only [impl_BestPlan.j0, if_true]
      refine Ev.bind e1 ?_
      cases ok <;> exact Ev.now _
    cases ok with
    | true => exact ⟨pl, n, 0, im, sp, e3 rfl⟩
    | false => exact ⟨[], 0, 7, im, sp, by simp⟩
  · have hc : ∃ c : Int, ¬ c = 0 ∧ Ev (fun k => impl_BestPlan.f k l h bu) ([], 0, c) ∧ Ev (fun k => spec_BestPlan.f k l h bu) ([], 0, c) := by
      have j0 : ∀ c : Int, ¬ c = 0 → Ev (fun k => impl_BestPlan.j0 k l h bu c) ([], 0, c) := fun c hc => by
        refine Ev.step (fun _ => rfl) ?_
        simp only [impl_BestPlan.j0, if_neg hc]
        exact Ev.now _
      cases hok : okJ l with
      | false =>
        rw [hok] at hv ha
        refine ⟨1, by omega, ?_, ?_⟩
        · unfold impl_BestPlan.f
          refine Ev.bind hv ?_
          simp only [hands_f, within_f, Option.bind_some, impl_codeOf.f, Bool.false_eq_true, if_false]
          split <;> exact j0 1 (by omega)
        · unfold spec_BestPlan.f
          refine Ev.bind (a := (([] : List S70), (0 : Int), (1 : Int))) ?_ (Ev.now _)
          unfold spec_l07Best.f
          refine Ev.bind ha ?_
          simp only [Bool.false_eq_true, if_false, if_neg (show ¬ (1 : Int) = 0 by omega)]
          exact Ev.now _
      | true =>
        rw [hok] at hv ha
        refine ⟨2, by omega, ?_, ?_⟩
        · unfold impl_BestPlan.f
          refine Ev.bind hv ?_
          by_cases hh : 1 ≤ h ∧ h ≤ 4
          · have hb : ¬ (0 ≤ bu ∧ bu ≤ 20000) := fun hb => hin ⟨hok, hh, hb⟩
            simp only [hands_f, within_f, Option.bind_some, impl_codeOf.f, decide_eq_true hh, decide_eq_false hb, if_true, Bool.false_eq_true, if_false]
            exact j0 2 (by omega)
          · simp only [hands_f, within_f, Option.bind_some, impl_codeOf.f, decide_eq_false hh, if_true, Bool.false_eq_true, if_false]
            exact j0 2 (by omega)
        · unfold spec_BestPlan.f
          refine Ev.bind (a := (([] : List S70), (0 : Int), (2 : Int))) ?_ (Ev.now _)
          unfold spec_l07Best.f
          refine Ev.bind ha ?_
          by_cases hh : 1 ≤ h ∧ h ≤ 4
          · have hb : ¬ (0 ≤ bu ∧ bu ≤ 20000) := fun hb => hin ⟨hok, hh, hb⟩
            simp only [if_true, if_pos hh, in_f, Option.bind_some, decide_eq_false hb, Bool.false_eq_true, if_false]
            exact Ev.now _
          · simp only [if_true, if_neg hh, if_neg (show ¬ (2 : Int) = 0 by omega)]
            exact Ev.now _
    obtain ⟨c, _, h1, h2⟩ := hc
    exact ⟨[], 0, c, h1, h2, by simp⟩

theorem FnExactBestPlan : laws_FnExactBestPlan.Pure := by
  intro x h bu hx1 hx2 hx3 hd hb
  have hxl : (x.length : Int) ≤ 9000000000000000000 := by omega
  unfold laws_FnExactBestPlan.f
  simp only [szJobs_f x 1048576 hxl (by omega) (by omega), Option.bind_some]
  by_cases c1 : (1048576 : Int) - (x.length : Int) < 0
  · simp only [if_pos c1, show ((-1 : Int) < 0) = True from eq_true (by omega), if_true]
    exact ⟨0, by first | rfl | trivial⟩
  simp only [if_neg c1]
  have hxn : x.length ≤ 1048576 := by omega
  obtain ⟨l, hl⟩ : ∃ l, l = x.map fun y => (⟨y.f0, y.f1⟩ : S66) := ⟨_, rfl⟩
  have hll : l.length ≤ 1048576 := by rw [hl, List.length_map]; exact hxn
  have hw : WJ l := by
    intro y hy
    rw [hl] at hy
    obtain ⟨z, hz, rfl⟩ := List.mem_map.1 hy
    obtain ⟨h1, h2⟩ := hx3 z hz
    have := wf8 h1
    have := wfu16 h2
    exact ⟨by show _ ≤ z.f0; omega, by show z.f0 ≤ _; omega, by show _ ≤ z.f1; omega, by show z.f1 ≤ _; omega⟩
  have tj := toJobs_ev x hxn
  rw [← hl] at tj
  obtain ⟨pl, n, c, hi, hs, hpl⟩ := plan_both hw hll h bu
  obtain ⟨m1, e1⟩ := markJobs l 1 hll (by omega) (by omega)
  obtain ⟨m2, e2, e3⟩ := markSlots pl (by omega)
  have er := eqSlots_self pl (by omega)
  have last : Ev (fun k => laws_FnExactBestPlan.j2 k m2 (1 + 2 * (pl.length : Int)) (c != c)) true := by
    refine Ev.step (fun _ => rfl) ?_
    simp only [laws_FnExactBestPlan.j2, bne_self_eq_false, Bool.false_eq_true, if_false]
    refine Ev.bind e3 ?_
    simp only [if_neg (show ¬ 1 + 2 * (pl.length : Int) < 0 by omega), if_true]
    exact Ev.now _
  have mid : Ev (fun k => laws_FnExactBestPlan.j1 k x h bu pl n c pl (c != c)) true := by
    refine Ev.step (fun _ => rfl) ?_
    simp only [laws_FnExactBestPlan.j1, bne_self_eq_false, Bool.false_eq_true, if_false]
    refine Ev.bind e2 ?_
    refine Ev.bind e3 ?_
    simp only [if_neg (show ¬ 1 + 2 * (pl.length : Int) < 0 by omega), if_true]
    refine Ev.bind tj ?_
    refine Ev.bind hi ?_
    refine Ev.bind er ?_
    simp only [if_true]
    first | exact last | (simp only [bne_self_eq_false] at last; exact last)
  have first : Ev (fun k => laws_FnExactBestPlan.j0 k x h bu pl n c l pl n c (c != c)) true := by
    refine Ev.step (fun _ => rfl) ?_
    simp only [laws_FnExactBestPlan.j0, bne_self_eq_false, Bool.false_eq_true, if_false]
    refine Ev.bind tj ?_
    refine Ev.bind (eqJobs_self l hll) ?_
    simp only [if_true]
    refine Ev.bind e1 ?_
    simp only [if_neg (show ¬ 1 + 2 * (l.length : Int) < 0 by omega)]
    refine Ev.bind er ?_
    simp only [if_true]
    first | exact mid | (simp only [bne_self_eq_false] at mid; exact mid)
  have all : Ev (fun k => (laws_toJobS.f k x).bind fun t264 => ((spec_BestPlan.f k t264 h bu).bind fun bt267 => ((laws_toJobS.f k x).bind fun t272 => ((impl_BestPlan.f k t272 h bu).bind fun bt275 => ((laws_eqSlotS.f k bt275.1 bt267.1).bind fun t280 => (if t280 = true then (if bt275.2.1 = bt267.2.1 then (laws_FnExactBestPlan.j0 k x h bu bt267.1 bt267.2.1 bt267.2.2 t272 bt275.1 bt275.2.1 bt275.2.2 (bt275.2.2 != bt267.2.2)) else (laws_FnExactBestPlan.j0 k x h bu bt267.1 bt267.2.1 bt267.2.2 t272 bt275.1 bt275.2.1 bt275.2.2 true)) else (laws_FnExactBestPlan.j0 k x h bu bt267.1 bt267.2.1 bt267.2.2 t272 bt275.1 bt275.2.1 bt275.2.2 true))))))) true := by
    refine Ev.bind tj ?_
    refine Ev.bind hs ?_
    refine Ev.bind tj ?_
    refine Ev.bind hi ?_
    refine Ev.bind er ?_
    simp only [if_true]
    first | exact first | (simp only [bne_self_eq_false] at first; exact first)
  obtain ⟨k, hk⟩ := all
  exact ⟨k, hk k (Nat.le_refl _)⟩
end Go.Proofs.Ythocaohlimollaa.Pure
