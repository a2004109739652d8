/-
  The pure side of the statement: the program's HandsNeeded and the reference's come to the same number and code, for all jobs, days and budgets.
-/
import Derived.Test.YthocaohlimollaaPureLook
namespace Go.Proofs.Ythocaohlimollaa.Pure
open Go.RowKit Go.Proofs.YthocaohlimollaaW.PrintWords Go.Proofs.YthocaohlimollaaW.PrintLast Go.Proofs.YthocaohlimollaaW.PrintMore Go.Proofs.Ythocaohlimollaa.XH Go.Proofs.Ythocaohlimollaa.PB Go.Proofs.Ythocaohlimollaa.PL
set_option linter.unusedVariables false
set_option linter.unusedSimpArgs false
theorem toJobs_ev (x : List S74) (hl : x.length ≤ 1048576) : Ev (fun k => laws_toJobS.f k x) (x.map fun y => (⟨y.f0, y.f1⟩ : S66)) := by
  have key : ∀ (m : Nat) (i : Int) (out : List S66), 0 ≤ i → i + m = (x.length : Int) → out.length = x.length → (out.take i.toNat = (x.map fun y => (⟨y.f0, y.f1⟩ : S66)).take i.toNat) → Ev (fun k => laws_toJobS.l0 k x out i) (x.map fun y => (⟨y.f0, y.f1⟩ : S66)) := by
    intro m
    induction m with
    | zero =>
      intro i out i0 hi ho ht
      refine Ev.step (fun _ => rfl) ?_
      simp only [laws_toJobS.l0, if_neg (show ¬ i < (x.length : Int) by omega)]
      rw [List.take_of_length_le (by omega), List.take_of_length_le (by rw [List.length_map]; omega)] at ht
      rw [ht]
      exact Ev.now _
    | succ m ih =>
      intro i out i0 hi ho ht
      have hlt : i.toNat < x.length := by omega
      refine Ev.step (fun _ => rfl) ?_
      simp only [laws_toJobS.l0, if_pos (show i < (x.length : Int) by omega), if_pos i0, laws_toJob.f, Option.bind_some, if_pos (show i < (out.length : Int) by omega), w64 (n := i + 1) (by omega) (by omega)]
      refine ih (i + 1) _ (by omega) (by omega) (by rw [List.length_set]; exact ho) ?_
      rw [show (i + 1).toNat = i.toNat + 1 by omega, List.take_add_one, List.take_add_one, List.take_set_of_le (by omega), ht]
      congr 1
      rw [List.getElem?_set_self (by omega), List.getElem?_map, List.getElem?_eq_getElem hlt]
      simp [rd_T74, List.getD_eq_getElem?_getD, List.getElem?_eq_getElem hlt]
  unfold laws_toJobS.f
  simp only [if_pos (show 0 ≤ (x.length : Int) by omega), if_pos (show (x.length : Int).toNat ≤ 70368744177664 by omega)]
  exact key x.length 0 _ (by omega) (by omega) (by simp) (by simp)
theorem eqJobs_self (x : List S66) (hl : x.length ≤ 1048576) : Ev (fun k => laws_eqJobS.f k x x) true := by
  have key : ∀ (m : Nat) (i : Int), 0 ≤ i → i + m = (x.length : Int) → Ev (fun k => laws_eqJobS.l0 k x x i) true := by
    intro m
    induction m with
    | zero =>
      intro i i0 hi
      refine Ev.step (fun _ => rfl) ?_
      simp only [laws_eqJobS.l0, if_neg (show ¬ i < (x.length : Int) by omega)]
      exact Ev.now _
    | succ m ih =>
      intro i i0 hi
      refine Ev.step (fun _ => rfl) ?_
      simp only [laws_eqJobS.l0, if_pos (show i < (x.length : Int) by omega), if_pos i0, laws_eqJob.f, if_true, Option.bind_some, w64 (n := i + 1) (by omega) (by omega)]
      exact ih (i + 1) (by omega) (by omega)
  unfold laws_eqJobS.f
  simp only [if_true]
  exact key x.length 0 (by omega) (by omega)
theorem szJobs_f (x : List S74) (n : Int) (hl : (x.length : Int) ≤ 9000000000000000000) (hn0 : 0 ≤ n) (hn1 : n ≤ 1048576) : laws_szJobS.f x n = some (if n - (x.length : Int) < 0 then -1 else n - (x.length : Int)) := by
  unfold laws_szJobS.f
  rw [w64 (by omega) (by omega)]
  split <;> rfl
theorem wf8 {n : Int} (h : (Lit.int .i8 n).wf = true) : -128 ≤ n ∧ n ≤ 127 := by
  simp only [Lit.wf, Bool.and_eq_true, decide_eq_true_eq] at h
  exact h
theorem wfu16 {n : Int} (h : (Lit.int .u16 n).wf = true) : 0 ≤ n ∧ n ≤ 65535 := by
  simp only [Lit.wf, Bool.and_eq_true, decide_eq_true_eq] at h
  exact h
/-! HERE -/
theorem hands_loop {l : List S66} (hw : WJ l) (hok : okJ l = true) (days bu : Int) (hb : 0 ≤ bu ∧ bu ≤ 20000) : ∀ (m : Nat) (h : Int), 1 ≤ h → h + m = 5 → ∃ r, Ev (fun k => impl_HandsNeeded.l0 k l days bu h) r ∧ Ev (fun k => spec_HandsNeeded.l0 k l days bu h) r := by
  intro m
  induction m with
  | zero =>
    intro h h0 h1
    refine ⟨(0, 6), Ev.step (fun _ => rfl) ?_, Ev.step (fun _ => rfl) ?_⟩
    · simp only [impl_HandsNeeded.l0, if_neg (show ¬ h ≤ 4 by omega)]; exact Ev.now _
    · simp only [spec_HandsNeeded.l0, if_neg (show ¬ h ≤ 4 by omega)]; exact Ev.now _
  | succ m ih =>
    intro h h0 h1
    obtain ⟨pl, n, _, _, ok, e1, e2⟩ := best_both hw hok h bu ⟨h0, by omega⟩ hb
    cases ok with
    | false =>
      refine ⟨(0, 7), Ev.step (fun _ => rfl) ?_, Ev.step (fun _ => rfl) ?_⟩
      · simp only [impl_HandsNeeded.l0, if_pos (show h ≤ 4 by omega)]
        refine Ev.bind e1 ?_
        simp only [Bool.false_eq_true, if_false]
        exact Ev.now _
      · simp only [spec_HandsNeeded.l0, if_pos (show h ≤ 4 by omega)]
        refine Ev.bind e2 ?_
        simp only [Bool.false_eq_true, if_false, if_neg (show ¬ (7 : Int) = 0 by omega)]
        exact Ev.now _
    | true =>
      by_cases hd : n ≤ days
      · refine ⟨(h, 0), Ev.step (fun _ => rfl) ?_, Ev.step (fun _ => rfl) ?_⟩
        · simp only [impl_HandsNeeded.l0, if_pos (show h ≤ 4 by omega)]
          refine Ev.bind e1 ?_
          simp only [if_true, if_pos hd]
          exact Ev.now _
        · simp only [spec_HandsNeeded.l0, if_pos (show h ≤ 4 by omega)]
          refine Ev.bind e2 ?_
          simp only [if_true, if_pos hd]
          exact Ev.now _
      · obtain ⟨r, r1, r2⟩ := ih (h + 1) (by omega) (by omega)
        refine ⟨r, Ev.step (fun _ => rfl) ?_, Ev.step (fun _ => rfl) ?_⟩
        · simp only [impl_HandsNeeded.l0, if_pos (show h ≤ 4 by omega)]
          refine Ev.bind e1 ?_
          simp only [if_true, if_neg hd, w64 (n := h + 1) (by omega) (by omega)]
          exact r1
        · simp only [spec_HandsNeeded.l0, if_pos (show h ≤ 4 by omega)]
          refine Ev.bind e2 ?_
          simp only [if_true, if_neg hd, w64 (n := h + 1) (by omega) (by omega)]
          exact r2
theorem hands_both {l : List S66} (hw : WJ l) (hl : l.length ≤ 1048576) (days bu : Int) : ∃ r, Ev (fun k => impl_HandsNeeded.f k l days bu) r ∧ Ev (fun k => spec_HandsNeeded.f k l days bu) r := by
  have hv := valid_ev l hw hl
  have ho := ok_ev l hw hl
  cases hok : okJ l with
  | false =>
    rw [hok] at hv ho
    refine ⟨(0, 1), ?_, ?_⟩
    · unfold impl_HandsNeeded.f
      refine Ev.bind hv ?_
      simp only [within_f, Option.bind_some, impl_codeOf.f, Bool.false_eq_true, if_false]
      have e : Ev (fun k => impl_HandsNeeded.j0 k l days bu 1) (0, 1) := by
        refine Ev.step (fun _ => rfl) ?_
        simp only [impl_HandsNeeded.j0, if_neg (show ¬ (1 : Int) = 0 by omega)]
        exact Ev.now _
      split <;> exact e
    · unfold spec_HandsNeeded.f
      refine Ev.bind ho ?_
      simp only [Bool.false_eq_true, if_false]
      exact Ev.now _
  | true =>
    rw [hok] at hv ho
    by_cases hin : (0 ≤ days ∧ days ≤ 1000) ∧ (0 ≤ bu ∧ bu ≤ 20000)
    · obtain ⟨r, r1, r2⟩ := hands_loop hw hok days bu hin.2 4 1 (by omega) (by omega)
      refine ⟨r, ?_, ?_⟩
      · unfold impl_HandsNeeded.f
        refine Ev.bind hv ?_
        simp only [within_f, Option.bind_some, impl_codeOf.f, decide_eq_true hin.1, decide_eq_true hin.2, if_true]
        refine Ev.step (fun _ => rfl) ?_
        simp only [impl_HandsNeeded.j0, if_true]
        exact r1
      · unfold spec_HandsNeeded.f
        refine Ev.bind ho ?_
        simp only [in_f, Option.bind_some, decide_eq_true hin.1, decide_eq_true hin.2, if_true, Bool.not_true]
        refine Ev.step (fun _ => rfl) ?_
        simp only [spec_HandsNeeded.j0, Bool.false_eq_true, if_false]
        exact r2
    · refine ⟨(0, 2), ?_, ?_⟩
      · have e : Ev (fun k => impl_HandsNeeded.j0 k l days bu 2) (0, 2) := by
          refine Ev.step (fun _ => rfl) ?_
          simp only [impl_HandsNeeded.j0, if_neg (show ¬ (2 : Int) = 0 by omega)]
          exact Ev.now _
        unfold impl_HandsNeeded.f
        refine Ev.bind hv ?_
        by_cases h1 : 0 ≤ days ∧ days ≤ 1000
        · have h2 : ¬ (0 ≤ bu ∧ bu ≤ 20000) := fun h2 => hin ⟨h1, h2⟩
          simp only [within_f, Option.bind_some, impl_codeOf.f, decide_eq_true h1, decide_eq_false h2, if_true, Bool.false_eq_true, if_false]
          exact e
        · simp only [within_f, Option.bind_some, impl_codeOf.f, decide_eq_false h1, if_true, Bool.false_eq_true, if_false]
          exact e
      · have e : Ev (fun k => spec_HandsNeeded.j0 k l days bu true) (0, 2) := by
          refine Ev.step (fun _ => rfl) ?_
          simp only [spec_HandsNeeded.j0, if_true]
          exact Ev.now _
        unfold spec_HandsNeeded.f
        refine Ev.bind ho ?_
        by_cases h1 : 0 ≤ days ∧ days ≤ 1000
        · have h2 : ¬ (0 ≤ bu ∧ bu ≤ 20000) := fun h2 => hin ⟨h1, h2⟩
          simp only [in_f, Option.bind_some, decide_eq_true h1, decide_eq_false h2, if_true, Bool.not_false]
          exact e
        · simp only [in_f, Option.bind_some, decide_eq_false h1, if_true, Bool.false_eq_true, if_false]
          exact e

theorem FnExactHandsNeeded : laws_FnExactHandsNeeded.Pure := by
  intro x days bu hx1 hx2 hx3 hd hb
  have hxl : (x.length : Int) ≤ 9000000000000000000 := by omega
  unfold laws_FnExactHandsNeeded.f
  simp only [szJobs_f x 1048576 hxl (by omega) (by omega), Option.bind_some]
  by_cases c1 : (1048576 : Int) - (x.length : Int) < 0
  · simp only [if_pos c1, show ((-1 : Int) < 0) = True from eq_true (by omega), if_true]
    exact ⟨0, by first | rfl | trivial⟩
  simp only [if_neg c1]
  have hxn : x.length ≤ 1048576 := by omega
  obtain ⟨l, hl⟩ : ∃ l, l = x.map fun y => (⟨y.f0, y.f1⟩ : S66) := ⟨_, rfl⟩
  have hll : l.length ≤ 1048576 := by rw [hl, List.length_map]; exact hxn
  have hw : WJ l := by
    intro y hy
    rw [hl] at hy
    obtain ⟨z, hz, rfl⟩ := List.mem_map.1 hy
    obtain ⟨h1, h2⟩ := hx3 z hz
    have := wf8 h1
    have := wfu16 h2
    exact ⟨by show _ ≤ z.f0; omega, by show z.f0 ≤ _; omega, by show _ ≤ z.f1; omega, by show z.f1 ≤ _; omega⟩
  have tj := toJobs_ev x hxn
  rw [← hl] at tj
  obtain ⟨⟨a, c⟩, hi, hs⟩ := hands_both hw hll days bu
  have last : Ev (fun k => laws_FnExactHandsNeeded.j0 k x l (c != c)) true := by
    refine Ev.step (fun _ => rfl) ?_
    simp only [laws_FnExactHandsNeeded.j0, bne_self_eq_false, Bool.false_eq_true, if_false]
    refine Ev.bind tj ?_
    refine Ev.bind (eqJobs_self l hll) ?_
    simp only [if_true]
    exact Ev.now _
  have all : Ev (fun k => (laws_toJobS.f k x).bind fun t255 => (spec_HandsNeeded.f k t255 days bu).bind fun bt258 => (laws_toJobS.f k x).bind fun t260 => (impl_HandsNeeded.f k t260 days bu).bind fun bt263 => (if bt263.1 = bt258.1 then (laws_FnExactHandsNeeded.j0 k x t260 (bt263.2 != bt258.2)) else (laws_FnExactHandsNeeded.j0 k x t260 true))) true := by
    refine Ev.bind tj ?_
    refine Ev.bind hs ?_
    refine Ev.bind tj ?_
    refine Ev.bind hi ?_
    simp only [if_true]
    exact last
  obtain ⟨k, hk⟩ := all
  exact ⟨k, hk k (Nat.le_refl _)⟩
end Go.Proofs.Ythocaohlimollaa.Pure
