/- Contracts of functions of the given program, each for all arguments at which its Lean function answers; written by a program of this session (wip/xprint.py) over the print of the kit. -/
import Derived.Test.YthocaohlimollaaXB0
import Derived.Test.YthocaohlimollaaXB1
import Derived.Test.YthocaohlimollaaXB12
namespace Go.Proofs.Ythocaohlimollaa.XB
open Go.RowKit Go.Proofs.YthocaohlimollaaW.PrintWords Go.Proofs.YthocaohlimollaaW.PrintLast Go.Proofs.YthocaohlimollaaW.PrintMore
attribute [local go_sem] max2_int min2_int max_two min_two max_three min_three max_four min_four   -- for this text's walks alone
set_option linter.unusedVariables false
set_option linter.unusedSimpArgs false

/-! ### impl_Job_impl_ValidJobs_1: function 168 -/
set_option maxHeartbeats 8000000 in
set_option maxRecDepth 100000 in
theorem impl_Job_119.gen (I : World → Prop) {g : FuncId} {fn : Func} {cap : Array Value} (hf : Try.prog.funcs[g]? = some fn) (hname : (fn.name == "runtime.NumGoroutine") = false) (hb : fn.body.isSome = true) (p : S66 → Option Bool)
  (A0 : Option Addr) (c0 : Nat) (l0 : List S66) (r : Int) (w : World) (hI0 : I w) (hr0 : ∀ W, I W → Kd.C k66 W A0 l0.length l0) (hc0 : l0.length ≤ c0)
  (hF : ∀ x b, p x = some b → ∀ W, I W → Calls Try.prog g (#[.agg #[.int .i8 x.f0, .int .u16 x.f1]] ++ cap) W fun e w' => e = .returned (.bool b) ∧ I w') (h : idxM p l0 0 = some r) :
  Calls Try.prog 119 #[.slice A0 l0.length c0, .func (.func g) #[] cap] w fun e w' => e = .returned (.int .i64 r) ∧ I w' := by
 have hu66 := Try.underlying66
 have HR := Aside0.mk hr0
 have HF := Aside0.mk hF
 have HI := Aside0.mk hI0
 have Hf := Aside0.mk hf
 have Hn := Aside0.mk hname
 have Hb := Aside0.mk hb
 have HC0 := Aside0.mk hc0
 have Hm := Aside0.mk (hr0 w hI0).2.1
 have H0 := Aside0.mk h
 clear hr0 hF hI0 hf hname hb hc0 h
 go_enter Try.func119, Try.ntmps119
 go_wp2
 go_loopg [8] (l0.length + 1) (fun kq v8 w' => ∃ x : Int, v8 = .int .i64 x ∧ Aside0 (0 ≤ x ∧ (kq : Int) + x = l0.length + 1 ∧ idxM p (l0.drop x.toNat) x = some r) ∧ Aside0 (I w'))
 case atStart => exact ⟨0, rfl, ⟨Int.le_refl _, by omega, H0.out⟩, HI⟩
 case round =>
  obtain ⟨x, rfl, HA, HI⟩ := hrel
  by_cases hlt : x < (l0.length : Int)
  ·have c4b0 : decide (x < (l0.length : Int)) = true := decide_eq_true hlt
   have p1 : 0 ≤ x := HA.out.1
   obtain ⟨ad, e, hx_0, hx_1⟩ := at_T66 (HR.out _ HI.out) x p1 hlt
   cases e
   obtain ⟨b, hb1, hb2, hb3⟩ := idxM_step (z66 : S66) p1 hlt HA.out.2.2
   have hb1 : p (rd_T66 l0 x) = some b := hb1
   have hcall := HF.out (rd_T66 l0 x) b hb1 _ HI.out
   have HCall := Aside0.mk hcall
   have he := fun W => enters_ Hf.out Hn.out Hb.out (#[.agg #[.int .i8 ((rd_T66 l0 x).f0), .int .u16 ((rd_T66 l0 x).f1)]] ++ cap) W
   have B2 := Aside0.mk hb2
   have B3 := Aside0.mk hb3
   clear hcall hb1 hb2 hb3
   have q1 := eq_true hlt
   replace p1 := eq_true p1
   clear hlt
   cases b with
   | true =>
    go_wp2_with (first | ((with_reducible refine (HCall.out).mono ?_); rintro e w' ⟨rfl, hi'⟩; skip))
    go_ret
    refine ⟨?_, hi'⟩
    show Ending.returned (.int .i64 x) = _
    rw [show r = x by first | exact B2.out rfl | exact B2.out trivial | exact B2.out]
   | false =>
    go_wp2_with (first | ((with_reducible refine (HCall.out).mono ?_); rintro e w' ⟨rfl, hi'⟩; have HI' := Aside0.mk hi'; clear hi'; skip))
    go_roundg (gk - 1)
    case measure => have := HA.out.2.1; have := of_eq_true q1; omega
    case rel => exact ⟨wrap64 (x + 1), rfl, idxM_next HA.out Hm.out (of_eq_true q1) (by first | exact B3.out rfl | exact B3.out trivial | exact B3.out), HI'⟩
  ·have c4b0 : decide (x < (l0.length : Int)) = false := decide_eq_false hlt
   go_wp2
   go_ret
   refine ⟨?_, HI.out⟩
   rw [idxM_end (by omega) HA.out.1 HA.out.2.2]
   first | done | rfl
set_option maxHeartbeats 8000000 in
set_option maxRecDepth 100000 in
theorem impl_Job_88.gen (I : World → Prop) {g : FuncId} {fn : Func} {cap : Array Value} (hf : Try.prog.funcs[g]? = some fn) (hname : (fn.name == "runtime.NumGoroutine") = false) (hb : fn.body.isSome = true) (p : S66 → Option Bool)
  (A0 : Option Addr) (c0 : Nat) (l0 : List S66) (r : Int) (w : World) (hI0 : I w) (hr0 : ∀ W, I W → Kd.C k66 W A0 l0.length l0) (hc0 : l0.length ≤ c0)
  (hF : ∀ x b, p x = some b → ∀ W, I W → Calls Try.prog g (#[.agg #[.int .i8 x.f0, .int .u16 x.f1]] ++ cap) W fun e w' => e = .returned (.bool b) ∧ I w') (h : idxM p l0 0 = some r) :
  Calls Try.prog 88 #[.slice A0 l0.length c0, .func (.func g) #[] cap] w fun e w' => e = .returned (.bool (decide (0 ≤ r))) ∧ I w' := by
 have HC := Aside0.mk (impl_Job_119.gen I hf hname hb p A0 c0 l0 r w hI0 hr0 hc0 hF h)
 clear hf hname hb hI0 hr0 hc0 hF h
 go_enter Try.func88, Try.ntmps88
 go_wp2_with (first | ((with_reducible refine gate_callee (f := 119) rfl ?_); refine goesL_ (some 7) rfl rfl Try.func119 (by kernel_rfl) rfl #[.slice A0 l0.length c0, .func (.func g) #[] cap] rfl (by (try simp only [List.map_toArray, List.map_cons, List.map_nil]); first | done | rfl) ?_; (with_reducible refine (HC.out).mono ?_); rintro e w' ⟨rfl, hi'⟩; have HI' := Aside0.mk hi'; clear hi'; refine ⟨_, rfl, ?_⟩))
 go_ret
 exact ⟨by first | rfl | (simp; done), HI'.out⟩
def impl_Job_impl_ValidJobs_1.f (l0 : List S66) (a1_0 : Int) : Option Bool := (idxM (fun x => impl_ValidJobs_1.f x.f0 x.f1 a1_0) l0 0).bind fun i => some (decide (0 ≤ i))
set_option maxHeartbeats 8000000 in
set_option maxRecDepth 100000 in
theorem impl_Job_impl_ValidJobs_1.calls (A0 : Option Addr) (c0 : Nat) (l0 : List S66) (gp1 : Nat) (a1_0 : Int) (r : Bool) (w : World) (hr0 : Kd.C k66 w A0 l0.length l0) (hc0 : l0.length ≤ c0) (hb1 : w.heap[gp1]? = some (.cells #[.int .i64 a1_0] 3 (0, 0))) (h : impl_Job_impl_ValidJobs_1.f l0 a1_0 = some r) :
  Calls Try.prog 88 #[.slice A0 l0.length c0, .func (.func 89) #[] #[.pointer (some ⟨gp1, 0, none⟩)]] w fun e w' => e = .returned (.bool r) ∧ Below w.heap.size w w' := by
 obtain ⟨i, hi, hr⟩ := Option.bind_eq_some_iff.mp h
 obtain rfl := Option.some.inj hr
 refine impl_Job_88.gen (fun W => Below w.heap.size w W) Try.func89 (by kernel_rfl) rfl (fun x => impl_ValidJobs_1.f x.f0 x.f1 a1_0) A0 c0 l0 i w (Below.refl _ _) (fun W hW => Kd.C_below hr0 hW) hc0 ?_ hi
 intro x b hp W hW
 refine (impl_ValidJobs_1.calls x.f0 x.f1 gp1 a1_0 b W  (blk_below hb1 hW) hp).mono ?_
 rintro e w' ⟨rfl, hd⟩
 exact ⟨rfl, below_then hW hW.size hd⟩

end Go.Proofs.Ythocaohlimollaa.XB
