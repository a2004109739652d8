/- Contracts of functions of the given program, each for all arguments at which its Lean function answers; written by a program of this session (wip/xprint.py) over the print of the kit. -/
import Derived.Test.YtfngdojcfhndkaaXS0
import Derived.Test.YtfngdojcfhndkaaXS1
import Derived.Test.YtfngdojcfhndkaaXS4
import Derived.Test.YtfngdojcfhndkaaXS6
namespace Go.Proofs.Ytfngdojcfhndkaa.XS
open Go.RowKit Go.Proofs.YtfngdojcfhndkaaW.PrintWords Go.Proofs.YtfngdojcfhndkaaW.PrintLast Go.Proofs.YtfngdojcfhndkaaW.PrintMore
attribute [local go_sem] max2_int min2_int max_two min_two max_three min_three max_four min_four   -- for this text's walks alone
set_option linter.unusedVariables false
set_option linter.unusedSimpArgs false

/-! ### impl_isWidth: function 17 -/
def impl_isWidth.f (l0 : List Int) : Option Bool := some (!(l0.any fun n => !(decide (1 ≤ n) && decide (n ≤ 200))))
set_option maxHeartbeats 8000000 in
set_option maxRecDepth 100000 in
theorem impl_isWidth.calls (A0 : Option Addr) (c0 : Nat) (l0 : List Int) (r : Bool) (w : World) (hr0 : Kd.C (Kd.int .i64) w A0 l0.length l0) (hc0 : l0.length ≤ c0) (h : impl_isWidth.f l0 = some r) :
    Calls Try.prog 17 #[.slice A0 l0.length c0] w fun e w' => e = .returned (.bool r) ∧ Drawn0 w w' := by
  have HF : ∀ x, x ∈ l0 → ∀ W, Drawn0 w W → Calls Try.prog 29 (#[.int .i64 x] ++ #[]) W fun e w' => e = .returned (.bool (!(decide (1 ≤ x) && decide (x ≤ 200)))) ∧ Drawn0 w w' := by
    intro x _ W hW
    have hw : impl_within.f x 1 200 = some (decide (1 ≤ x) && decide (x ≤ 200)) := by unfold impl_within.f; by_cases h1 : (1 : Int) ≤ x <;> simp [h1]
    have Hw := Aside0.mk (impl_within.calls x 1 200 _ W hw)
    clear hw
    have HW := Aside0.mk hW
    clear hW
    generalize (decide (1 ≤ x) && decide (x ≤ 200)) = b at *
    show Calls Try.prog 29 #[.int .i64 x] W _
    go_enter Try.func29, Try.ntmps29
    go_wp2_with (first | ((with_reducible refine gate_callee (f := 18) rfl ?_); refine goesL_ _ rfl rfl Try.func18 (by kernel_rfl) rfl #[.int .i64 x, .int .i64 1, .int .i64 200] rfl (by (try simp only [List.map_toArray, List.map_cons, List.map_nil]); first | done | rfl) ?_; (with_reducible refine (Hw.out).mono ?_); rintro e w' ⟨rfl, hi'⟩; have HI' := Aside0.mk hi'; clear hi'; refine ⟨_, rfl, ?_⟩))
    go_ret
    exact ⟨by first | rfl | (simp; done) | (simp [*]; done), drawn_trans HW.out HI'.out⟩
  have HC := Aside0.mk (slices_ContainsFunc_1 (Drawn0 w) Try.func29 (by kernel_rfl) rfl (fun n => !(decide (1 ≤ n) && decide (n ≤ 200))) A0 c0 l0 w (Drawn0.refl w) (fun W hW => Kd.C_below hr0 hW.below) hc0 hr0.2.1 HF)
  clear hr0 hc0 HF
  obtain rfl := Option.some.inj h
  generalize (l0.any fun n => !(decide (1 ≤ n) && decide (n ≤ 200))) = b at *
  go_enter Try.func17, Try.ntmps17
  go_wp2_with (first | ((with_reducible refine gate_callee (f := 28) rfl ?_); refine goesL_ _ rfl rfl Try.func28 (by kernel_rfl) rfl #[.slice A0 l0.length c0, .func (.func 29) #[] #[]] rfl (by (try simp only [List.map_toArray, List.map_cons, List.map_nil]); first | done | rfl) ?_; (with_reducible refine (HC.out).mono ?_); rintro e w' ⟨rfl, hi'⟩; have HI' := Aside0.mk hi'; clear hi'; refine ⟨_, rfl, ?_⟩))
  go_ret
  exact ⟨by first | rfl | (simp; done) | (simp [*]; done), HI'.out⟩

end Go.Proofs.Ytfngdojcfhndkaa.XS
