/- Contracts of functions of the given program, each for all arguments at which its Lean function answers; written by a program of this session (wip/xprint.py) over the print of the kit. -/
import Derived.Test.YtfngdojcfhndkaaXS0
import Derived.Test.YtfngdojcfhndkaaXS1
namespace Go.Proofs.Ytfngdojcfhndkaa.XS
open Go.RowKit Go.Proofs.YtfngdojcfhndkaaW.PrintWords Go.Proofs.YtfngdojcfhndkaaW.PrintLast Go.Proofs.YtfngdojcfhndkaaW.PrintMore
attribute [local go_sem] max2_int min2_int max_two min_two max_three min_three max_four min_four   -- for this text's walks alone
set_option linter.unusedVariables false
set_option linter.unusedSimpArgs false

/-! ### slices_IndexFunc_int64_int64: function 34 -/
set_option maxHeartbeats 8000000 in
set_option maxRecDepth 100000 in
theorem slices_IndexFunc_1 (I : World → Prop) {g : FuncId} {fn : Func} {cap : Array Value} (hf : Try.prog.funcs[g]? = some fn) (hname : (fn.name == "runtime.NumGoroutine") = false) (hb : fn.body.isSome = true) (p : Int → Bool)
    (A0 : Option Addr) (c0 : Nat) (l0 : List Int) (w : World) (hI0 : I w) (hr0 : ∀ W, I W → Kd.C (Kd.int .i64) W A0 l0.length l0) (hc0 : l0.length ≤ c0) (hm : l0.length ≤ 9223372036854775807)
    (hF : ∀ x, x ∈ l0 → ∀ W, I W → Calls Try.prog g (#[.int .i64 x] ++ cap) W fun e w' => e = .returned (.bool (p x)) ∧ I w') :
    Calls Try.prog 34 #[.slice A0 l0.length c0, .func (.func g) #[] cap] w fun e w' => e = .returned (.int .i64 (idxOf p l0)) ∧ I w' := by
  have HR := Aside0.mk hr0
  have HF := Aside0.mk hF
  have HI := Aside0.mk hI0
  have Hf := Aside0.mk hf
  have Hn := Aside0.mk hname
  have Hb := Aside0.mk hb
  have HC0 := Aside0.mk hc0
  have Hm := Aside0.mk hm
  clear hr0 hF hI0 hf hname hb hc0 hm
  go_enter Try.func34, Try.ntmps34
  go_wp2
  go_loopg [8] (l0.length + 1) (fun kq v8 w' => ∃ x : Int, v8 = .int .i64 x ∧ Aside0 (0 ≤ x ∧ (kq : Int) + x = l0.length + 1 ∧ ∀ j : Nat, (j : Int) < x → p (l0.getD j 0) = false) ∧ Aside0 (I w'))
  case atStart => exact ⟨0, rfl, ⟨Int.le_refl _, by omega, fun j hj => absurd hj (by omega)⟩, HI⟩
  case round =>
    obtain ⟨x, rfl, HA, HI⟩ := hrel
    by_cases hlt : x < (l0.length : Int)
    · have c4b0 : decide (x < (l0.length : Int)) = true := decide_eq_true hlt
      have p1 : 0 ≤ x := HA.out.1
      obtain ⟨ad, e, hx⟩ := Kd.at_int (HR.out _ HI.out) x p1 hlt
      cases e
      have hcall := HF.out (rd l0 x) (by simp only [rd, List.getD_eq_getElem?_getD, List.getElem?_eq_getElem (show x.toNat < l0.length by omega), Option.getD_some]; exact List.getElem_mem _) _ HI.out
      have HCall := Aside0.mk hcall
      have he := fun W => enters_ Hf.out Hn.out Hb.out (#[.int .i64 (rd l0 x)] ++ cap) W
      clear hcall
      have q1 := eq_true hlt
      replace p1 := eq_true p1
      clear hlt
      cases hp : p (rd l0 x) with
      | true =>
        have Hp := Aside0.mk hp
        clear hp
        go_wp2_with (first | ((with_reducible refine (HCall.out).mono ?_); rintro e w' ⟨rfl, hi'⟩; rw [Hp.out]; skip))
        go_ret
        refine ⟨?_, hi'⟩
        show Ending.returned (.int .i64 x) = _
        rw [idxOf_at (x := x) l0 HA.out.1 (by have := of_eq_true q1; omega) HA.out.2.2 Hp.out]
      | false =>
        have Hp := Aside0.mk hp
        clear hp
        go_wp2_with (first | ((with_reducible refine (HCall.out).mono ?_); rintro e w' ⟨rfl, hi'⟩; rw [Hp.out]; have HI' := Aside0.mk hi'; clear hi'; skip))
        go_roundg (gk - 1)
        case measure => have := HA.out.2.1; have := of_eq_true q1; omega
        case rel => exact ⟨wrap64 (x + 1), rfl, idxOf_next HA.out Hm.out (of_eq_true q1) Hp.out, HI'⟩
    · have c4b0 : decide (x < (l0.length : Int)) = false := decide_eq_false hlt
      go_wp2
      go_ret
      refine ⟨?_, HI.out⟩
      rw [idxOf_none p l0 (fun j hj => HA.out.2.2 j (by omega))]; rfl

end Go.Proofs.Ytfngdojcfhndkaa.XS
