/- Contracts of functions of the given program, each for all arguments at which its Lean function answers; written by a program of this session (wip/xprint.py) over the print of the kit. -/
import Derived.Test.YtfngdojcfhndkaaXS0
import Derived.Test.YtfngdojcfhndkaaXS4
import Derived.Test.YtfngdojcfhndkaaXS9
import Derived.Test.YtfngdojcfhndkaaXS10
import Derived.Test.YtfngdojcfhndkaaXS11
import Derived.Test.YtfngdojcfhndkaaXS12
namespace Go.Proofs.Ytfngdojcfhndkaa.XS
open Go.RowKit Go.Proofs.YtfngdojcfhndkaaW.PrintWords Go.Proofs.YtfngdojcfhndkaaW.PrintLast Go.Proofs.YtfngdojcfhndkaaW.PrintMore
attribute [local go_sem] max2_int min2_int max_two min_two max_three min_three max_four min_four   -- for this text's walks alone
set_option linter.unusedVariables false
set_option linter.unusedSimpArgs false

/-! ### laws_FnExactStaggerRows: function 3 -/
def laws_FnExactStaggerRows.Pure : Prop := ∀ (a0 a1 a2 a3 a4 : Int), (Lit.int .i64 a0).wf = true → (Lit.int .i64 a1).wf = true → (Lit.int .i64 a2).wf = true → (Lit.int .i64 a3).wf = true → (Lit.int .i64 a4).wf = true →
  ∃ (k : Nat) (rs ms : List (List Int)) (c m : Int), spec_StaggerRows.f k a0 a1 a2 a3 a4 = some (rs, c) ∧ impl_StaggerRows.f k a0 a1 a2 a3 a4 = some (rs, c) ∧ laws_eqRowS.f k rs rs = some true ∧ laws_markRowS.f k rs 1 = some (m, ms) ∧ laws_heldRowS.f k ms 1 = some m ∧ 0 ≤ m

set_option maxHeartbeats 8000000 in
set_option maxRecDepth 100000 in
theorem laws_FnExactStaggerRows.walk (P : laws_FnExactStaggerRows.Pure) (a0 a1 a2 a3 a4 : Int) (w : World) (w0 : (Lit.int .i64 a0).wf = true) (w1 : (Lit.int .i64 a1).wf = true) (w2 : (Lit.int .i64 a2).wf = true) (w3 : (Lit.int .i64 a3).wf = true) (w4 : (Lit.int .i64 a4).wf = true) :
    Calls Try.prog 3 #[.int .i64 a0, .int .i64 a1, .int .i64 a2, .int .i64 a3, .int .i64 a4] w fun e w' => e = .returned (.bool true) ∧ Below w.heap.size w w' := by
  obtain ⟨k, rs, ms, c, m, h1, h2, h3, h4, h5, h6⟩ := P a0 a1 a2 a3 a4 w0 w1 w2 w3 w4
  clear w0 w1 w2 w3 w4 P
  have H1 := Aside0.mk h1
  have H2 := Aside0.mk h2
  have H3 := Aside0.mk h3
  have H4 := Aside0.mk h4
  have H5 := Aside0.mk h5
  have c6 : decide (m < 0) = false := decide_eq_false (by omega)
  clear h1 h2 h3 h4 h5 h6
  go_enter Try.func3, Try.ntmps3
  go_wp2_with (first
    | ((with_reducible refine gate_callee (f := 4) rfl ?_); refine goesL_ (some 25) rfl rfl Try.func4 (by kernel_rfl) rfl #[.int .i64 a0, .int .i64 a1, .int .i64 a2, .int .i64 a3, .int .i64 a4] rfl (by (try simp only [List.map_toArray, List.map_cons, List.map_nil]); first | done | rfl) ?_; (with_reducible refine (spec_StaggerRows.calls k a0 a1 a2 a3 a4 rs c _ H1.out).mono ?_); rintro e x1 ⟨v0, rfl, hs, hb⟩; obtain ⟨A0, c0, rfl, hc, hr⟩ := Kd.S_reads hs; have HB1 := Aside0.mk hb; have HC0 := Aside0.mk hc; have HR0 := Aside0.mk hr; clear hs hb hc hr; refine ⟨_, rfl, ?_⟩)
    | ((with_reducible refine gate_callee (f := 5) rfl ?_); refine goesL_ (some 34) rfl rfl Try.func5 (by kernel_rfl) rfl #[.int .i64 a0, .int .i64 a1, .int .i64 a2, .int .i64 a3, .int .i64 a4] rfl (by (try simp only [List.map_toArray, List.map_cons, List.map_nil]); first | done | rfl) ?_; (with_reducible refine (impl_StaggerRows.calls k a0 a1 a2 a3 a4 rs c _ H2.out).mono ?_); rintro e x2 ⟨v1, rfl, hs, hb⟩; obtain ⟨A1, c1, rfl, hc, hr⟩ := Kd.S_reads hs; have HS1 := Aside0.mk hs; have HB2 := Aside0.mk hb; have HC1 := Aside0.mk hc; have HR1 := Aside0.mk hr; clear hs hb hc hr; refine ⟨_, rfl, ?_⟩)
    | ((with_reducible refine gate_callee (f := 6) rfl ?_); refine goesL_ (some 39) rfl rfl Try.func6 (by kernel_rfl) rfl #[.slice A1 rs.length c1, .slice A0 rs.length c0] rfl (by (try simp only [List.map_toArray, List.map_cons, List.map_nil]); first | done | rfl) ?_; (with_reducible refine (laws_eqRowS.calls k A1 c1 rs A0 c0 rs true _ HR1.out HC1.out (Kd.C_below HR0.out HB2.out) HC0.out H3.out).mono ?_); rintro e x3 ⟨rfl, hd⟩; have HB3 := Aside0.mk (below_then HB2.out HB2.out.size hd.below); have HS3 := Aside0.mk (Kd.S_mono (Kd.S_bound (Kd.S_below HS1.out hd.below)) (fun k_ hk => hk.2.1)); clear hd; refine ⟨_, rfl, ?_⟩)
    | ((with_reducible refine gate_callee (f := 7) rfl ?_); refine goesL_ (some 48) rfl rfl Try.func7 (by kernel_rfl) rfl #[.slice A1 rs.length c1, .int .i64 1] rfl (by (try simp only [List.map_toArray, List.map_cons, List.map_nil]); first | done | rfl) ?_; (with_reducible refine (laws_markRowS.calls k (fun k_ => x1.heap.size ≤ k_) _ rs 1 m ms x1 _ HB3.out (fun k_ hk => Nat.le_trans HB3.out.size hk) HS3.out H4.out).mono ?_); rintro e x4 ⟨rfl, hs, hb, _⟩; obtain ⟨hl4, hc, hr⟩ := Kd.S_reads' hs; have HL4 := Aside0.mk hl4; have HB4 := Aside0.mk hb; have HC4 := Aside0.mk (hl4 ▸ hc); have HR4 := Aside0.mk hr; clear hs hb hc hr hl4; refine ⟨_, rfl, ?_⟩)
    | ((with_reducible refine gate_callee (f := 8) rfl ?_); refine goesL_ (some 51) rfl rfl Try.func8 (by kernel_rfl) rfl #[.slice A1 ms.length c1, .int .i64 1] rfl (by (try simp only [List.map_toArray, List.map_cons, List.map_nil]); rw [← HL4.out]; rfl) ?_; (with_reducible refine (laws_heldRowS.calls k A1 c1 ms 1 m _ HR4.out HC4.out H5.out).mono ?_); rintro e x5 ⟨rfl, hd⟩; have HB5 := Aside0.mk (below_then HB4.out HB4.out.size hd.below); have HR5 := Aside0.mk (Kd.C_below HR4.out hd.below); clear hd; refine ⟨_, rfl, ?_⟩)
    | ((with_reducible refine gate_callee (f := 5) rfl ?_); refine goesL_ (some 63) rfl rfl Try.func5 (by kernel_rfl) rfl #[.int .i64 a0, .int .i64 a1, .int .i64 a2, .int .i64 a3, .int .i64 a4] rfl (by (try simp only [List.map_toArray, List.map_cons, List.map_nil]); first | done | rfl) ?_; (with_reducible refine (impl_StaggerRows.calls k a0 a1 a2 a3 a4 rs c _ H2.out).mono ?_); rintro e x6 ⟨v2, rfl, hs, hb⟩; obtain ⟨A2, c2, rfl, hc, hr⟩ := Kd.S_reads hs; have HB6 := Aside0.mk (below_then HB5.out HB5.out.size hb); have HR6 := Aside0.mk (Kd.C_below HR5.out hb); have HC2 := Aside0.mk hc; have HR2 := Aside0.mk hr; clear hs hb hc hr; refine ⟨_, rfl, ?_⟩)
    | ((with_reducible refine gate_callee (f := 6) rfl ?_); refine goesL_ (some 68) rfl rfl Try.func6 (by kernel_rfl) rfl #[.slice A2 rs.length c2, .slice A0 rs.length c0] rfl (by (try simp only [List.map_toArray, List.map_cons, List.map_nil]); first | done | rfl) ?_; (with_reducible refine (laws_eqRowS.calls k A2 c2 rs A0 c0 rs true _ HR2.out HC2.out (Kd.C_below HR0.out HB6.out) HC0.out H3.out).mono ?_); rintro e x7 ⟨rfl, hd⟩; have HB7 := Aside0.mk (below_then HB6.out HB6.out.size hd.below); have HR7 := Aside0.mk (Kd.C_below HR6.out hd.below); clear hd; refine ⟨_, rfl, ?_⟩)
    | ((with_reducible refine gate_callee (f := 8) rfl ?_); refine goesL_ (some 77) rfl rfl Try.func8 (by kernel_rfl) rfl #[.slice A1 ms.length c1, .int .i64 1] rfl (by (try simp only [List.map_toArray, List.map_cons, List.map_nil]); rw [← HL4.out]; rfl) ?_; (with_reducible refine (laws_heldRowS.calls k A1 c1 ms 1 m _ HR7.out HC4.out H5.out).mono ?_); rintro e x8 ⟨rfl, hd⟩; have HB8 := Aside0.mk (below_then HB7.out HB7.out.size hd.below); clear hd; refine ⟨_, rfl, ?_⟩))
  go_ret
  exact ⟨by first | rfl | (simp; done), below_then HB1.out HB1.out.size HB8.out⟩

end Go.Proofs.Ytfngdojcfhndkaa.XS
