/- Contracts of functions of the given program, each for all arguments at which its Lean function answers; written by a program of this session (wip/xprint.py) over the print of the kit. -/
import Derived.Test.YtfngdojcfhndkaaXS0
import Derived.Test.YtfngdojcfhndkaaXS10
namespace Go.Proofs.Ytfngdojcfhndkaa.XS
open Go.RowKit Go.Proofs.YtfngdojcfhndkaaW.PrintWords Go.Proofs.YtfngdojcfhndkaaW.PrintLast Go.Proofs.YtfngdojcfhndkaaW.PrintMore
attribute [local go_sem] max2_int min2_int max_two min_two max_three min_three max_four min_four   -- for this text's walks alone
set_option linter.unusedVariables false
set_option linter.unusedSimpArgs false

/-! ### laws_markRowS: function 7 -/
def laws_markRowS.l0 : Nat → List (List Int) → Int → Int → Option (Int × List (List Int))
  | 0, _, _, _ => none
  | k + 1, x0, x1, x5 => if x5 < (x0.length : Int) then (if 0 ≤ x5 then ((laws_markRow.f k (x0.getD x5.toNat []) x1).bind fun b => laws_markRowS.l0 k (x0.set x5.toNat b.2) b.1 (wrap64 (x5 + 1))) else (none)) else (some (x1, x0))
def laws_markRowS.f (k : Nat) (l0 : List (List Int)) (a1 : Int) : Option (Int × List (List Int)) := laws_markRowS.l0 k l0 a1 0

set_option maxHeartbeats 8000000 in
set_option maxRecDepth 100000 in
theorem laws_markRowS.calls (k : Nat) (P0_ : Nat → Prop) (u0 : Value) (l0 : List (List Int)) (a1 : Int) (r1 : Int) (r2 : List (List Int)) (w0 w : World) (hB : Below w0.heap.size w0 w) (hP : ∀ k_, w.heap.size ≤ k_ → P0_ k_) (ho0 : Kd.S (Kd.slice 41 (Kd.int .i16)) 32 w w0.heap.size P0_ u0 l0) (h : laws_markRowS.f k l0 a1 = some (r1, r2)) :
    Calls Try.prog 7 #[u0, .int .i64 a1] w fun e w' => e = .returned (.int .i64 r1) ∧ Kd.S (Kd.slice 41 (Kd.int .i16)) 32 w' w0.heap.size P0_ u0 r2 ∧ Below w0.heap.size w0 w' ∧ Kept w w' P0_ := by
  obtain ⟨A0, c0, rfl⟩ := Kd.S_slice ho0
  have HO := Aside0.mk ho0
  have HB := Aside0.mk hB
  have HK := Aside0.mk (Kept.refl w P0_)
  have HP := Aside0.mk hP
  have H := Aside0.mk (show laws_markRowS.l0 k l0 a1 0 = some (r1, r2) from h)
  have HL := Aside0.mk (rfl : l0.length = l0.length)
  clear ho0 hB hP h
  obtain ⟨n0, hn0⟩ : ∃ n0, n0 = l0.length := ⟨_, rfl⟩
  rw [← hn0]
  have HN := Aside0.mk hn0
  have HO : Aside0 (Kd.S (Kd.slice 41 (Kd.int .i16)) 32 w w0.heap.size P0_ (.slice A0 n0 c0) l0) := by rw [hn0]; exact HO
  clear hn0 HL
  go_enter Try.func7, Try.ntmps7
  go_wp2
  go_loopg [1, 5] k (fun kq v1 v5 w' => ∃ (x0 : List (List Int)) (x1 x5 : Int), v1 = .int .i64 x1 ∧ v5 = .int .i64 x5 ∧ Aside0 (x0.length = n0) ∧ Aside0 (laws_markRowS.l0 kq x0 x1 x5 = some (r1, r2)) ∧ Aside0 (kq ≤ k) ∧ Aside0 (Kd.S (Kd.slice 41 (Kd.int .i16)) 32 w' w0.heap.size P0_ (.slice A0 n0 c0) x0) ∧ Aside0 (Below w0.heap.size w0 w') ∧ Aside0 (Kept w w' P0_))
  case atStart => exact ⟨l0, a1, 0, rfl, rfl, ⟨HN.out.symm⟩, H, ⟨Nat.le_refl _⟩, HO, HB, HK⟩
  case round =>
    clear HO HB HK H
    obtain ⟨x0, x1, x5, rfl, rfl, HN', HA, HK1, HO, HB, HK⟩ := hrel
    cases gk with
    | zero => exact absurd HA.out (by simp [laws_markRowS.l0])
    | succ k1 =>
      have H := HA.out
      clear HA
      simp only [laws_markRowS.l0] at H
      rw [HN'.out] at H
      by_cases c1 : x5 < (n0 : Int)
      · rw [if_pos c1] at H
        by_cases c2 : 0 ≤ x5
        · rw [if_pos c2] at H
          obtain ⟨⟨b1, b2⟩, hm, H⟩ := Option.bind_eq_some_iff.mp H
          have HM := Aside0.mk hm
          have H := Aside0.mk H
          clear hm
          obtain ⟨g, cap, eA, hgb, hgl, hcells⟩ := Kd.S_form HO.out (by have := HN'.out; omega)
          have hcells := Aside0.mk hcells
          injection eA with eA1 eA2 eA3
          subst eA1
          obtain ⟨oki, c, hcl, hM, hcc, hoki, hH⟩ := Kd.S_lend HO.out [] x5 c2 c1
          obtain ⟨vi, rfl, hRi⟩ := hM
          have hx := hcc 0 _ rfl
          rw [Nat.add_zero, show (Kd.slice 41 (Kd.int .i16)).sz = 1 from rfl, Nat.mul_one] at hx
          obtain ⟨Ai, ci, rfl⟩ := Kd.R_slice hRi
          have HRi := Aside0.mk hRi
          have HH := Aside0.mk hH
          have HOk := Aside0.mk hoki
          have HCL := Aside0.mk hcl
          clear hRi hH hoki hcl hcc eA2 eA3 hgb hgl
          have c1b : decide (x5 < (n0 : Int)) = true := decide_eq_true c1
          replace c2 := eq_true c2
          replace c1 := eq_true c1
          have HC := Aside0.mk (laws_markRow.calls k1 oki _ _ x1 b1 b2 w0 wr HB.out HRi.out HM.out)
          go_wp2_with (first | ((with_reducible refine gate_callee (f := 22) rfl ?_); refine goesL_ _ rfl rfl Try.func22 (by kernel_rfl) rfl #[.slice Ai (x0.getD x5.toNat []).length ci, .int .i64 x1] rfl (by (try simp only [List.map_toArray, List.map_cons, List.map_nil]); first | done | rfl) ?_; (with_reducible refine (HC.out).mono ?_); rintro e w2 ⟨rfl, hr', hb', hk'⟩; have HR' := Aside0.mk hr'; have HB' := Aside0.mk hb'; have HK' := Aside0.mk hk'; clear hr' hb' hk'; refine ⟨_, rfl, ?_⟩))
          go_roundg k1
          case measure => omega
          case rel =>
            refine ⟨x0.set x5.toNat b2, b1, wrap64 (x5 + 1), rfl, rfl, ⟨by rw [List.length_set]; exact HN'.out⟩, H, ⟨by have := HK1.out; omega⟩, ⟨?_⟩, HB', ⟨?_⟩⟩
            · have hH2 := Kd.H_step (w1 := w2) (Kd.H_widen HH.out) (fun k_ _ hn hlt => HK'.out.2 k_ hlt (fun h_ => hn (.inl h_)))
              exact Kd.H_back hH2 (okp := fun k_ => oki k_ ∨ P0_ k_ ∧ wr.heap.size ≤ k_) (Kd.M_row (Kd.R_mono HR'.out (fun k_ hk => hk.elim .inl (fun h_ => .inr ⟨HP.out k_ (Nat.le_trans HK.out.1 h_), h_⟩)))) (fun _ hk => hk)
            · exact Kept.then_ HK.out HK'.out (fun k_ hk => .inl (HOk.out k_ hk).1)
        · rw [if_neg c2] at H
          exact absurd H (by simp)
      · rw [if_neg c1] at H
        have c1b : decide (x5 < (n0 : Int)) = false := decide_eq_false c1
        simp only [Option.some.injEq, Prod.mk.injEq] at H
        obtain ⟨rfl, rfl⟩ := H
        go_wp2
        go_ret
        exact ⟨by first | rfl | (simp; done), HO.out, HB.out, HK.out⟩

end Go.Proofs.Ytfngdojcfhndkaa.XS
