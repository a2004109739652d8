/- The law FnExactBestPlan of the given program returns true for all its arguments, and they read behind the call as they read before; no condition. -/
import Derived.Test.YthocaohlimollaaRows
import Derived.Test.YthocaohlimollaaXB22
import Derived.Test.YthocaohlimollaaPureFnExactBestPlan
import Derived.WalkKit
import Derived.ProofKit
import Derived.OpenShut
import Derived.ShutString
import Derived.ChangeOld
import Derived.Below
import Derived.SizedLaws
import Derived.Deep.SlicePairs
import Derived.Test.YthocaohlimollaaVB1
namespace Go.Proofs.Ythocaohlimollaa.fnExactBestPlan
open Go.ChangeShapes Go.WideShapes Go.ChangeAt Go.RowKit
open Go.ChangeMaps (open_string shut_string)
set_option linter.unusedVariables false
theorem own : ownKnob Try.prog.godebug = none := by kernel_rfl
theorem laidOut : laidOutB Try.prog = true := by kernel_rfl
def IsRow (k : IntKind) (w : World) (a : Option Addr) (len cap : Nat) (zs : List Int) : Prop :=
  (a = none ∧ len = 0 ∧ cap = 0 ∧ zs = []) ∨
  ∃ x, a = some x ∧ len ≤ cap ∧ cap ≤ maxLen ∧ zs.length = cap ∧ (∀ i, i < zs.length → w.cell? (x.add i) = some (.int k (zs.getD i 0))) ∧ ∀ n ∈ zs, (Lit.int k n).wf = true
open XB in
def IsPairs74 (w : World) (a : Option Addr) (len cap : Nat) (z : List S74) : Prop := (a = none ∧ len = 0 ∧ cap = 0 ∧ z = []) ∨ ∃ x, a = some x ∧ len ≤ cap ∧ cap ≤ maxLen ∧ z.length = cap ∧ (∀ i, i < z.length → w.cell? (x.add (i * 2)) = some (.int .i8 (z.getD i z74).f0) ∧ w.cell? (x.add (i * 2 + 1)) = some (.int .u16 (z.getD i z74).f1)) ∧ ∀ n ∈ z, (Lit.int .i8 n.f0).wf = true ∧ (Lit.int .u16 n.f1).wf = true
open XB in
theorem cells74 {H : Type} {enc : TypeId × Value → H} {W : World} {spare : Nat → Bool} {held : Bool} {m n : Nat} {V0 V1 : Nat → Value} {D0 D1 : Nat → DataW H} {P0 P1 : Nat → List MemPlace} {a : Addr}
    (h : ∀ i, i < m → W.cell? (a.add (i * 2)) = some (V0 i) ∧ W.cell? (a.add (i * 2 + 1)) = some (V1 i) ∧ DataW.trod enc Try.prog W 0 spare held n 45 [V0 i] = some (D0 i, P0 i) ∧ DataW.trod enc Try.prog W 0 spare held n 64 [V1 i] = some (D1 i, P1 i)) :
    ∃ z : List S74, z.length = m ∧ (∀ i, i < z.length → W.cell? (a.add (i * 2)) = some (.int .i8 (z.getD i z74).f0) ∧ W.cell? (a.add (i * 2 + 1)) = some (.int .u16 (z.getD i z74).f1)) ∧ ∀ n ∈ z, (Lit.int .i8 n.f0).wf = true ∧ (Lit.int .u16 n.f1).wf = true := by
  induction m with
  | zero => exact ⟨[], rfl, fun i hi => absurd hi (Nat.not_lt_zero _), by simp⟩
  | succ m ih =>
    obtain ⟨z, hz, hc, hw⟩ := ih (fun i hi => h i (by omega))
    obtain ⟨c0, c1, d0, d1⟩ := h m (by omega)
    obtain ⟨x0, e0, _, w0⟩ := DataW.trod_int Try.underlying45 d0
    obtain ⟨x1, e1, _, w1⟩ := DataW.trod_int Try.underlying64 d1
    rw [show V0 m = .int .i8 x0 by simpa using e0] at c0
    rw [show V1 m = .int .u16 x1 by simpa using e1] at c1
    refine ⟨z ++ [⟨x0, x1⟩], by simp [hz], fun i hi => ?_, fun q hq => ?_⟩
    · rcases Nat.lt_or_ge i z.length with hlt | hge
      · have hthis := hc i hlt
        have e : (z ++ [(⟨x0, x1⟩ : S74)]).getD i z74 = z.getD i z74 := by rw [List.getD_eq_getElem?_getD, List.getD_eq_getElem?_getD, List.getElem?_append_left hlt]
        rw [e]
        exact hthis
      · have hi2 : i = m := by simp at hi; omega
        subst hi2
        have e : (z ++ [(⟨x0, x1⟩ : S74)]).getD i z74 = ⟨x0, x1⟩ := by rw [List.getD_eq_getElem?_getD, List.getElem?_append_right hge, hz, Nat.sub_self]; rfl
        rw [e]
        exact ⟨c0, c1⟩
    · rcases List.mem_append.1 hq with hq | hq
      · exact hw q hq
      · obtain rfl : q = _ := by simpa using hq
        exact ⟨w0, w1⟩
open XB in
theorem opened74 {H : Type} {enc : TypeId × Value → H} {W : World} {t : TypeId} {a : Option Addr} {len cap : Nat} {d : DataW H} {ps : List MemPlace} (hs : Try.prog.underlying 74 = Try.prog.underlying 74) (ht : Try.prog.underlying t = some (.slice 74))
    (h : DataW.Trod enc Try.prog W 0 (fun _ => true) true t (.slice a len cap) d ps) : ∃ zs, IsPairs74 W a len cap zs := by
  obtain ⟨fuel, hf⟩ := h
  rcases Go.Deep.open_slice_pairs ht Try.underlying74 (by kernel_rfl) rfl rfl (by kernel_rfl) (by kernel_rfl) hf with ⟨hcs, _⟩ | ⟨x, l, c, m, n, V0, V1, D0, D1, P0, P1, hcs, _, hl, hm, hmm, _, hx⟩
  · simp [Value.cells] at hcs
    obtain ⟨rfl, rfl, rfl⟩ := hcs
    exact ⟨[], .inl ⟨rfl, rfl, rfl, rfl⟩⟩
  · simp [Value.cells] at hcs
    obtain ⟨rfl, rfl, rfl⟩ := hcs
    obtain ⟨z, hz, hc, hw⟩ := cells74 hx
    exact ⟨z, .inr ⟨_, rfl, hl, hm, by rw [hz, hmm]; rfl, hc, hw⟩⟩
theorem sized74 {H : Type} {enc : TypeId × Value → H} {W : World} {t : TypeId} {a : Option Addr} {len cap : Nat} {d : DataW H} {ps : List MemPlace} {ts : List TypeId} {ds : List (DataW H)} {j : Nat}
    (hsz : (DataW.weightsEach Try.prog ts ds).all (· ≤ reachBytes) = true) (ht : ts[j]? = some t) (hd : ds[j]? = some d) (hu : Try.prog.underlying t = some (.slice 74)) (hB : Try.prog.bytesOf 74 = 4)
    (h : DataW.Trod enc Try.prog W 0 (fun _ => true) true t (.slice a len cap) d ps) : len * 4 ≤ 140737488351232 := by
  obtain ⟨fuel, hf⟩ := h
  rcases Go.Deep.open_slice_pairs hu Try.underlying74 (by kernel_rfl) rfl rfl (by kernel_rfl) (by kernel_rfl) hf with ⟨hcs, _⟩ | ⟨x, l, c, m, n, V0, V1, D0, D1, P0, P1, hcs, _, hl, hm, hmm, hx, _⟩
  · simp [Value.cells] at hcs
    obtain ⟨rfl, rfl, rfl⟩ := hcs
    simp
  · simp [Value.cells] at hcs
    obtain ⟨rfl, rfl, rfl⟩ := hcs
    obtain ⟨hx, _⟩ := Prod.mk.inj hx
    subst hx
    have z := sized_slice hsz ht hd hu
    rw [hB] at z
    simp only [List.length_map, List.length_range] at z
    exact Nat.le_trans (Nat.mul_le_mul_right _ (Nat.le_add_right _ _)) z

set_option maxRecDepth 100000 in
theorem lifted (os : Os) (started : os.Started) (H : Type) (enc : TypeId × Value → H) :
    ReturnsInHanded {} Try.checked os 5 .any (Rows.fnExactBestPlanSpec.pre6 enc Try.prog Try.f5 Rows.fnExactBestPlanRow.domain false) (Rows.fnExactBestPlanSpec.post enc Try.prog Try.f5 false true false false) := by
  refine returnsInHanded_of_change_sized (C := Try.checked) own started (by kernel_rfl) Try.func5
    (ChangeSpec.witness6 (enc := enc) (C := Try.checked) false ⟨#[], #[.slice none 0 0, .int .i64 0, .int .i64 0], []⟩ 8 (by kernel_rfl) (by kernel_rfl) (by kernel_rfl) (by kernel_rfl)) ?_
  intro W base args ds gs before hval0 hW hcnd hsz0 _
  have hsz : (DataW.weightsEach Try.prog (Try.f5.params.toList ++ Rows.fnExactBestPlanSpec.plain.varTypes Try.prog) (ds ++ gs)).all (· ≤ reachBytes) = true := hsz0
  have hval : ∀ (j : Nat) t v, Try.f5.params[j]? = some t → args[j]? = some v → Value.okWide Try.prog W .any base t v := hval0
  have hW' := hW
  obtain ⟨p, q, hA0, hV, rfl, hfz, hnd⟩ := hW
  have hA : DataW.TrodAll enc Try.prog W 0 (fun _ => true) true Try.f5.params.toList args.toList ds p := hA0
  rw [Try.params5] at hA hval hsz
  obtain ⟨v0, vs0, d0, ds0, p0, q0, hargs, rfl, rfl, h0, r0⟩ := trodAll_cons hA
  obtain ⟨v1, vs1, d1, ds1, p1, q1, rfl, rfl, rfl, h1, r1⟩ := trodAll_cons r0
  obtain ⟨v2, vs2, d2, ds2, p2, q2, rfl, rfl, rfl, h2, r2⟩ := trodAll_cons r1
  obtain ⟨rfl, rfl, rfl⟩ := trodAll_nil r2
  obtain rfl : args = #[v0, v1, v2] := by cases args; simp_all
  obtain ⟨rfl, rfl⟩ := trodVars_none hV
  obtain ⟨a0, len0, cap0, rfl⟩ := okWide_slice Try.underlying22 (hval 0 22 v0 rfl rfl)
  have k0 := h0
  have lt0 : ∀ x ∈ p0, x.block < W.heap.size := by obtain ⟨m, hm⟩ := k0; exact DataW.trod_lt m _ _ _ hm
  obtain ⟨z0, w0⟩ : ∃ zs, IsPairs74 W a0 len0 cap0 zs := opened74 (by kernel_rfl) Try.underlying22 h0
  have y0 : len0 * 4 ≤ 140737488351232 := sized74 hsz (j := 0) (t := 22) rfl rfl Try.underlying22 (by kernel_rfl) h0
  obtain ⟨a1, rfl, rfl, rfl, w1⟩ := open_int Try.underlying2 (hval 1 2 v1 rfl rfl) h1
  obtain ⟨a2, rfl, rfl, rfl, w2⟩ := open_int Try.underlying2 (hval 2 2 v2 rfl rfl) h2
  clear hA0 hval0 hsz0 hsz
  refine (XB.laws_FnExactBestPlan.walk Pure.FnExactBestPlan a0 len0 cap0 z0 a1 a2 W w0 y0 w1 w2).mono fun e W' ⟨he, bel⟩ => ?_
  subst he
  exact ⟨_, rfl, _, _, _, [], _, [], hW', trodAll_mk1 (shut_bool Try.underlying4 _), (trodAll_cons_mk (Below.trod laidOut (by kernel_rfl) (of_decide_eq_true (by kernel_rfl)) k0 bel lt0) (trodAll_cons_mk (shut_int Try.underlying2 w1) (trodAll_cons_mk (shut_int Try.underlying2 w2) trodAll_mk0))), rfl, bel.frame _, fun h => by cases h⟩
theorem over : Rows.fnExactBestPlanRow.holds Try.pinned (OpenSpec.ofChange Rows.fnExactBestPlanSpec) :=
  OpenClaim.holds_of_wide 5 Try.f5 rfl rfl rfl rfl rfl rfl rfl ⟨rfl, rfl, rfl, rfl, rfl⟩ rfl rfl rfl rfl rfl (by kernel_rfl) Try.func5 (by kernel_rfl)
    (of_decide_eq_true (by kernel_rfl)) (by unfold Func.isWrapper; first | (rw [if_pos (by decide +kernel)]; kernel_rfl) | (rw [if_neg (by decide +kernel)]; exact ⟨rfl, rfl⟩))
    (fun os started H enc _ => lifted os started H enc)
theorem proved : Rows.FnExactBestPlanSaid := over
#print axioms proved
end Go.Proofs.Ythocaohlimollaa.fnExactBestPlan
namespace Go.Proofs.Ythocaohlimollaa
/-- The row, under a short name, for the claim. -/
theorem fnExactBestPlan_holds : Rows.FnExactBestPlanSaid := fnExactBestPlan.proved
end Go.Proofs.Ythocaohlimollaa
