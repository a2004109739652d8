/- Contracts of functions of the given program, each for all arguments at which its Lean function answers; written by a program of this session (wip/xprint.py) over the print of the kit. -/
import Derived.Test.YthocaohlimollaaXB5
import Derived.Test.YthocaohlimollaaXB0
import Derived.Test.YthocaohlimollaaXB3
import Derived.Test.YthocaohlimollaaXB4
import Derived.Test.YthocaohlimollaaXB6
import Derived.Test.YthocaohlimollaaXB16
import Derived.Test.YthocaohlimollaaXB17
import Derived.Test.YthocaohlimollaaXB19
namespace Go.Proofs.Ythocaohlimollaa.XB
open Go.RowKit Go.Proofs.YthocaohlimollaaW.PrintWords Go.Proofs.YthocaohlimollaaW.PrintLast Go.Proofs.YthocaohlimollaaW.PrintMore
attribute [local go_sem] max2_int min2_int max_two min_two max_three min_three max_four min_four   -- for this text's walks alone
set_option linter.unusedVariables false
set_option linter.unusedSimpArgs false

/-! ### impl_best: function 52 -/
def lookG (l : List S66) (bound budget : Int) : Nat → Option Int → LS → Int → Option (Bool × LS)
 | 0, _, _, _ => none
 | k + 1, none, s, day => if s.taken = fullD l then some (day == bound, { s with best := some s.plan, length := day }) else lookG l bound budget k (some 0) s day
 | k + 1, some i, s, day =>
  if i < (l.length : Int) then
   (if Go.bits .and .u16 (shr .u16 s.taken i) 1 = 1 then lookG l bound budget k (some (wrap64 (i + 1))) s day
   else if Go.bits .andNot .u16 (rd_T66 l i).f1 s.taken ≠ 0 then lookG l bound budget k (some (wrap64 (i + 1))) s day
   else (impl_shop_slot.f k l s.plan s.free i).bind fun own =>
    (impl_done.f (rd_T66 l i).f0 (rd_T66 l i).f1 own.1 own.2).bind fun fin =>
     if s.best.isSome = true ∧ fin ≥ s.length then lookG l bound budget k (some (wrap64 (i + 1))) s day
     else if wrap64 (s.tries + 1) > budget then some (true, { s with tries := wrap64 (s.tries + 1), over := true })
     else if 0 ≤ own.1 then (if own.1 < (s.free.length : Int) then
      (lookG l bound budget k none { s with tries := wrap64 (s.tries + 1), plan := s.plan.set i.toNat ⟨own.1, own.2⟩, free := s.free.set own.1.toNat fin, taken := Go.bits .or .u16 s.taken (shl .u16 1 i) } (mx day fin)).bind fun r =>
       if r.1 = true then some (true, r.2)
       else lookG l bound budget k (some (wrap64 (i + 1))) { r.2 with plan := r.2.plan.set i.toNat (rd_T70 s.plan i), free := r.2.free.set own.1.toNat (rd s.free own.1), taken := Go.bits .andNot .u16 r.2.taken (shl .u16 1 i) } day
      else none) else none)
  else some (false, s)
set_option maxHeartbeats 8000000 in
set_option maxRecDepth 100000 in
theorem look_calls (l : List S66) (hl : l.length ≤ 12) (bound budget : Int) (w0 : World) (F S : Nat) (AL : Option Addr) (cL : Nat) (hC : Kd.C k66 w0 AL l.length l) (hcL : l.length ≤ cL) (gp gf : Nat) (cp cf nh : Nat) :
  ∀ (k : Nat) (vb : Value) (s s' : LS) (day : Int) (r : Bool) (w : World), s.plan.length = l.length → s.free.length = nh → ST w0 w w F S AL cL l bound budget ⟨.slice (some ⟨gp, 0, none⟩) l.length cp, .slice (some ⟨gf, 0, none⟩) nh cf, vb⟩ ⟨.slice (some ⟨gp, 0, none⟩) l.length cp, .slice (some ⟨gf, 0, none⟩) nh cf, vb⟩ s → lookG l bound budget k none s day = some (r, s') →
  Calls Try.prog 91 #[.pointer (some ⟨F, 0, none⟩), .int .i64 day] w fun e w' => e = .returned (.bool r) ∧ s'.plan.length = l.length ∧ s'.free.length = nh ∧ ∃ vb2, ST w0 w w' F S AL cL l bound budget ⟨.slice (some ⟨gp, 0, none⟩) l.length cp, .slice (some ⟨gf, 0, none⟩) nh cf, vb⟩ ⟨.slice (some ⟨gp, 0, none⟩) l.length cp, .slice (some ⟨gf, 0, none⟩) nh cf, vb2⟩ s' := by
 intro k
 induction k using Nat.strongRecOn with
 | _ k ih =>
 intro vb s s' day r w hpl hfl hT h
 cases k with
 | zero => exact absurd h (by simp [lookG])
 | succ k =>
 simp only [lookG] at h
 have hcF0 := (blk_cell hT.1.1 0).trans rfl
 have hcF1 := (blk_cell hT.1.1 1).trans rfl
 have hcS0 := (blk_cell hT.1.2.1 0).trans rfl
 have hT1 := hT.below (below_drew1 (Below.refl _ _))
 clear hT
 by_cases hT : s.taken = fullD l
 ·rw [if_pos hT] at h
  have cT : (s.taken == IntKind.u16.wrap (IntKind.u16.wrap (2 ^ l.length) - 1)) = true := beq_iff_eq.mpr hT
  go_enter Try.func91, Try.ntmps91
  go_wp2
  refine look_r1 F S s.taken AL l.length cL true (fun _ _ _ _ _ h => h) hcF0 hcF1 hcS0 cT hl ?_
  intros
  clear hcF0 hcF1 hcS0
  generalize hwa : w.drew = wa at hT1 ⊢
  have hcF0 := (blk_cell hT1.1.1 0).trans rfl
  have hcS1 := (blk_cell hT1.1.2.1 1).trans rfl
  obtain ⟨⟨hF1, hS1, hgF, hgS, hRp1, hRf1, hbest⟩, hB1, hSt, hsz⟩ := hT1
  have hcl : Calls Try.prog 121 #[.slice (some ⟨gp, 0, none⟩) l.length cp] wa (fun e w' => ∃ (a1 : Addr) (c1 : Nat), e = .returned (.slice (some a1) l.length c1) ∧ Kd.R k70 70 w' wa.heap.size (fun _ => True) (.slice (some a1) l.length c1) s.plan ∧ Below wa.heap.size wa w') := by
   have h1 := Kd.R_reads' hRp1
   have := clone_slots ⟨gp, 0, none⟩ cp s.plan wa h1.2.2 (by rw [hpl]; exact h1.2.1) (by omega)
   rw [hpl] at this
   exact this
  have HCL := Aside0.mk hcl
  have HF1 := Aside0.mk hF1
  have HSt := Aside0.mk hSt
  clear hcl hSt
  go_wp2_with (first
   | ((with_reducible refine gate_callee (f := 121) rfl ?_); go_loud (refine goesL_ (some 35) rfl rfl Try.func121 (by kernel_rfl) rfl #[.slice (some ⟨gp, 0, none⟩) l.length cp] rfl (by (try simp only [List.map_toArray, List.map_cons, List.map_nil]); first | done | rfl) ?_; (with_reducible refine (HCL.out).mono ?_); rintro e w6 ⟨a1, c1, rfl, hr6, hb6⟩; have HR6 := Aside0.mk hr6; have HB6 := Aside0.mk hb6; have HF6 := Aside0.mk (blk_below HF1.out hb6); clear hr6 hb6; have hcF2 := (blk_cell HF6.out 2).trans rfl; have hcF3 := (blk_cell HF6.out 3).trans rfl; have hcF4 := (blk_cell HF6.out 4).trans rfl; have hfF2 := blk_frozen HF6.out 2; have hfF3 := blk_frozen HF6.out 3; refine ⟨_, rfl, ?_⟩)))
  go_ret
  obtain ⟨rfl, rfl⟩ := Prod.mk.inj (Option.some.inj h)
  have hSF : S ≠ F := blk_ne hS1 hF1 (by decide)
  have hle : w0.heap.size ≤ wa.heap.size := hB1.size
  have hFlt := blk_lt hF1
  have hnew : ∀ k, wa.heap.size ≤ k → k ≠ F := fun k hk e => by omega
  have hvb : ∀ k, k < wa.heap.size → some k ≠ (Value.slice (some a1) l.length c1).ownBlock := fun k hk e => by
   have := Kd.R_base HR6.out k e.symm
   omega
  refine ⟨rfl, hpl, hfl, .slice (some a1) l.length c1, ⟨blk_put (blk_put HF6.out 2 _ rfl) 3 _ rfl, blk_far (blk_far (blk_below hS1 HB6.out) hSF _) hSF _, hgF, hgS, ?_, ?_, ⟨a1, c1, by show _ = Value.slice (some a1) s.plan.length c1; rw [hpl]⟩, ?_⟩, below_set (below_set (below_then hB1 hB1.size HB6.out) hgF) hgF, ?_, ?_⟩
  ·have h2 := Kd.R_mono (Kd.R_bound (Kd.R_types hRp1 hF1 (by decide))) (ok' := fun k => some k ≠ (Value.slice (some a1) l.length c1).ownBlock ∧ k ≠ F) (fun k hk => ⟨hvb k hk.2.2.1, hk.1.2⟩)
   exact Kd.R_mono (Kd.R_far (p := ⟨F, 3, none⟩) (Kd.R_far (p := ⟨F, 2, none⟩) (Kd.R_below h2 HB6.out) (fun _ hk => hk.2) _) (fun _ hk => hk.2) _) (fun _ hk => hk.1)
  ·have h2 := Kd.R_types hRf1 hF1 (by decide)
   exact Kd.R_mono (Kd.R_far (p := ⟨F, 3, none⟩) (Kd.R_far (p := ⟨F, 2, none⟩) (Kd.R_below h2 HB6.out) (fun _ hk => hk.2) _) (fun _ hk => hk.2) _) (fun _ hk => hk.1)
  ·have h2 := Kd.R_mono (Kd.R_bound HR6.out) (ok' := fun k => some k ≠ (Value.slice (some ⟨gp, 0, none⟩) l.length cp).ownBlock ∧ k ≠ F) (fun k hk => ⟨fun e => by have := Kd.R_lt hRp1 k e.symm; have := hk.2.1; omega, hnew k hk.2.1⟩)
   exact Kd.R_lower (Kd.R_mono (Kd.R_far (p := ⟨F, 3, none⟩) (Kd.R_far (p := ⟨F, 2, none⟩) h2 (fun _ hk => hk.2) _) (fun _ hk => hk.2) _) (fun _ hk => hk.1)) hle
  ·intro k hk h1 h2 h3 h4
   rw [Below.heap_setCell _ _ _ _ h1, Below.heap_setCell _ _ _ _ h1, HB6.out.block k (Nat.lt_of_lt_of_le hk hsz)]
   exact HSt.out k hk h1 h2 h3 h4
  ·simpa using Nat.le_trans hsz HB6.out.size
 ·rw [if_neg hT] at h
  have cT : (s.taken == IntKind.u16.wrap (IntKind.u16.wrap (2 ^ l.length) - 1)) = false := beq_eq_false_iff_ne.mpr hT
  go_enter Try.func91, Try.ntmps91
  go_wp2
  refine look_r1 F S s.taken AL l.length cL false (fun _ _ _ _ _ h => h) hcF0 hcF1 hcS0 cT hl ?_
  intros
  clear hcF0 hcF1 hcS0
  generalize hwa : w.drew = wa at hT1 ⊢
  have hcF0 := (blk_cell hT1.1.1 0).trans rfl
  have hcS1 := (blk_cell hT1.1.2.1 1).trans rfl
  have hcS0 := (blk_cell hT1.1.2.1 0).trans rfl
  have H0 := Aside0.mk h
  have HT1 := Aside0.mk hT1
  have HL1 := Aside0.mk (And.intro hpl hfl)
  clear h hT1 hpl hfl hT hwa cT
  go_wp2
  go_loopg [55] k (fun kq v55 w' => ∃ (i : Int) (s1 : LS) (vb1 : Value), v55 = .int .i64 i ∧ Aside0 (0 ≤ i) ∧ Aside0 (lookG l bound budget kq (some i) s1 day = some (r, s')) ∧ Aside0 (kq ≤ k) ∧ Aside0 (s1.plan.length = l.length ∧ s1.free.length = nh) ∧ Aside0 (ST w0 w w' F S AL cL l bound budget ⟨.slice (some ⟨gp, 0, none⟩) l.length cp, .slice (some ⟨gf, 0, none⟩) nh cf, vb⟩ ⟨.slice (some ⟨gp, 0, none⟩) l.length cp, .slice (some ⟨gf, 0, none⟩) nh cf, vb1⟩ s1))
  case atStart => exact ⟨0, s, vb, rfl, ⟨Int.le_refl _⟩, H0, ⟨Nat.le_refl _⟩, HL1, HT1⟩
  case round =>
   clear H0 HT1 HL1
   obtain ⟨i, s1, vb1, rfl, HI, HA, HK1, HL1, HT⟩ := hrel
   cases gk with
   | zero => exact absurd HA.out (by simp [lookG])
   | succ k1 =>
    have H := HA.out
    clear HA
    simp only [lookG] at H
    by_cases c1 : i < (l.length : Int)
    ·rw [if_pos c1] at H
     have c1b : decide (i < (l.length : Int)) = true := decide_eq_true c1
     obtain ⟨ad, e, hx0, hx1⟩ := at_T66 hC i HI.out c1
     cases e
     replace hx0 := (HT.out.2.1.cell (World.block_lt_of_cell? w0 _ hx0)).trans hx0
     replace hx1 := (HT.out.2.1.cell (World.block_lt_of_cell? w0 _ hx1)).trans hx1
     have hu66 := Try.underlying66
     have p1 := eq_true HI.out
     have q1 := eq_true c1
     clear c1
     go_wp2_with (first
      | ((with_reducible refine gate_dst (N := 6) rfl ?_); go_loud (refine box_event ?hg (N := 6) ?hd (cs := #[.int .i8 0, .int .u16 0]) (t := 66) ?hr ?_; (case hd => rfl); (case hg => rfl); (case hr => first | (go_simp; done) | (go_simp; rfl)); intro g6 hg6 w6 hbox6 hb6; have HG6 := Aside0.mk hg6; have HX6 := Aside0.mk hbox6; have HB6 := Aside0.mk hb6; have hc60 := (blk_cell hbox6 0).trans rfl; have hc61 := (blk_cell hbox6 1).trans rfl; have hf60 := blk_frozen hbox6 0; have hf61 := blk_frozen hbox6 1; clear hg6 hbox6 hb6)))
     have HX7 := Aside0.mk (blk_put (blk_put HX6.out 0 (.int .i8 (rd_T66 l i).f0) rfl) 1 (.int .u16 (rd_T66 l i).f1) rfl : ((w6.setCell ⟨g6, 0, none⟩ (.int .i8 (rd_T66 l i).f0)).setCell ⟨g6, 1, none⟩ (.int .u16 (rd_T66 l i).f1)).heap[g6]? = some (.cells #[.int .i8 (rd_T66 l i).f0, .int .u16 (rd_T66 l i).f1] 66 (0, 0)))
     have hbel : Below wr.heap.size wr ((w6.setCell ⟨g6, 0, none⟩ (.int .i8 (rd_T66 l i).f0)).setCell ⟨g6, 1, none⟩ (.int .u16 (rd_T66 l i).f1)) := below_set (below_set HB6.out (by rw [HG6.out]; exact Nat.le_refl _)) (by rw [HG6.out]; exact Nat.le_refl _)
     have HT7 := Aside0.mk (HT.out.below hbel)
     clear hbel
     clear hc60 hc61 hf60 hf61 HX6 HB6 HT hx0 hx1 HG6
     generalize ((w6.setCell ⟨g6, 0, none⟩ (.int .i8 (rd_T66 l i).f0)).setCell ⟨g6, 1, none⟩ (.int .u16 (rd_T66 l i).f1)) = w7 at HX7 HT7 ⊢
     have HT8 := Aside0.mk (HT7.out.below (below_drew1 (Below.refl _ _)))
     have HX8 := Aside0.mk (blk_drew HX7.out)
     clear HT7 HX7
     have hcF1 := (blk_cell HT8.out.1.1 1).trans rfl
     have hc61 := (blk_cell HX8.out 1).trans rfl
     obtain ⟨ji, hji⟩ : ∃ j_ : Int, shr .u16 s1.taken i = j_ := ⟨_, rfl⟩
     rw [hji] at H
     by_cases c2 : Go.bits .and .u16 ji 1 = 1
     ·rw [if_pos c2] at H
      have c2b : (Go.bits .and .u16 ji 1 == 1) = true := beq_iff_eq.mpr c2
      refine look_r7t F g6 s1.taken ji i (rd_T66 l i).f1 (fun _ _ _ _ _ h => h) hcF1 hc61 p1 hji c2b ?_
      intros
      go_wp2
      go_roundg k1
      case measure => omega
      case rel => exact ⟨wrap64 (i + 1), s1, vb1, rfl, ⟨by have h0 := HI.out; have h1 := of_eq_true q1; unfold wrap64; omega⟩, ⟨H⟩, ⟨by have := HK1.out; omega⟩, HL1, HT8⟩
     ·rw [if_neg c2] at H
      have c2b : (Go.bits .and .u16 ji 1 == 1) = false := beq_eq_false_iff_ne.mpr c2
      by_cases c3 : Go.bits .andNot .u16 (rd_T66 l i).f1 s1.taken ≠ 0
      ·rw [if_pos c3] at H
       have c3b : (Go.bits .andNot .u16 (rd_T66 l i).f1 s1.taken != 0) = true := bne_iff_ne.mpr c3
       refine look_r7f F g6 s1.taken ji i (rd_T66 l i).f1 _ (fun _ _ _ _ _ h => h) hcF1 hc61 p1 hji c2b c3b ?_
       intros
       go_wp2
       go_roundg k1
       case measure => omega
       case rel => exact ⟨wrap64 (i + 1), s1, vb1, rfl, ⟨by have h0 := HI.out; have h1 := of_eq_true q1; unfold wrap64; omega⟩, ⟨H⟩, ⟨by have := HK1.out; omega⟩, HL1, HT8⟩
      ·rw [if_neg c3] at H
       have c3b : (Go.bits .andNot .u16 (rd_T66 l i).f1 s1.taken != 0) = false := by simpa using c3
       refine look_r7f F g6 s1.taken ji i (rd_T66 l i).f1 _ (fun _ _ _ _ _ h => h) hcF1 hc61 p1 hji c2b c3b ?_
       intros
       clear hcF1 hc61 hji c2b c3b
       clear c2 c3
       generalize w7.drew = w8 at HT8 HX8 ⊢
       replace H := Option.bind_eq_some_iff.mp H
       obtain ⟨⟨own1, own2⟩, A8, H⟩ := H
       replace H := Option.bind_eq_some_iff.mp H
       obtain ⟨fin, A9, H⟩ := H
       dsimp only at A9 H
       have hcall : Calls Try.prog 76 #[.pointer (some ⟨S, 0, none⟩), .int .i64 i] w8 fun e w' => e = .returned (.agg #[.int .i8 own1, .int .i16 own2]) ∧ Below w8.heap.size w8 w' := by
        obtain ⟨⟨hF, hS, hgF, hgS, hRp, hRf, hbest⟩, hB8, _⟩ := HT8.out
        have e1 := HL1.out.1
        have e2 := HL1.out.2
        have r1 := Kd.R_reads' hRp
        have r2 := Kd.R_reads' hRf
        refine impl_shop_slot.calls k1 S (some ad) cL l (some ⟨gp, 0, none⟩) cp s1.plan (some ⟨gf, 0, none⟩) cf s1.free i own1 own2 w8 (Kd.C_below hC hB8) hcL r1.2.2 (by rw [e1]; exact r1.2.1) r2.2.2 (by rw [e2]; exact r2.2.1) ?_ A8
        rw [e1, e2]
        exact hS
       have HC8 := Aside0.mk hcall
       have A9' := Aside0.mk A9
       have H' := Aside0.mk H
       have hcF0 := (blk_cell HT8.out.1.1 0).trans rfl
       clear hcall A8 A9 H
       go_upto_region 9 with (first
        | ((with_reducible refine gate_callee (f := 76) rfl ?_); go_loud (refine goesL_ (some 83) rfl rfl Try.func76 (by kernel_rfl) rfl #[.pointer (some ⟨S, 0, none⟩), .int .i64 i] rfl (by (try simp only [List.map_toArray, List.map_cons, List.map_nil]); first | done | rfl) ?_; (with_reducible refine (HC8.out).mono ?_); rintro e w9 ⟨rfl, hb9⟩; have HB9 := Aside0.mk hb9; clear hb9; refine ⟨_, rfl, ?_⟩))
        | ((with_reducible refine gate_dst (N := 7) rfl ?_); go_loud (refine box_event ?hg (N := 7) ?hd (cs := #[.int .i8 0, .int .i16 0]) (t := 70) ?hr ?_; (case hd => rfl); (case hg => rfl); (case hr => first | (go_simp; done) | (go_simp; rfl)); intro g7 hg7 w10 hbox7 hb7; have HG7 := Aside0.mk hg7; have HX7 := Aside0.mk hbox7; have HB7 := Aside0.mk hb7; have hc70 := (blk_cell hbox7 0).trans rfl; have hc71 := (blk_cell hbox7 1).trans rfl; have hf70 := blk_frozen hbox7 0; have hf71 := blk_frozen hbox7 1; clear hg7 hbox7 hb7)))
       have hbel : Below w8.heap.size w8 ((w10.setCell ⟨g7, 0, none⟩ (.int .i8 own1)).setCell ⟨g7, 1, none⟩ (.int .i16 own2)) := below_set (below_set (below_then HB9.out HB9.out.size HB7.out) (by rw [HG7.out]; exact HB9.out.size)) (by rw [HG7.out]; exact HB9.out.size)
       have HT11 := Aside0.mk (HT8.out.below hbel)
       have HX11 := Aside0.mk (blk_below HX8.out hbel)
       have HY11 := Aside0.mk (blk_put (blk_put HX7.out 0 (.int .i8 own1) rfl) 1 (.int .i16 own2) rfl : ((w10.setCell ⟨g7, 0, none⟩ (.int .i8 own1)).setCell ⟨g7, 1, none⟩ (.int .i16 own2)).heap[g7]? = some (.cells #[.int .i8 own1, .int .i16 own2] 70 (0, 0)))
       have HN7 : Aside0 (gp ≠ g7 ∧ gf ≠ g7 ∧ ∀ q, some g7 = vb1.ownBlock → False) := ⟨by
        have hz : w8.heap.size ≤ g7 := by rw [HG7.out]; exact HB9.out.size
        obtain ⟨⟨hF, hS, hgF, hgS, hRp, hRf, hbest⟩, hB8, _⟩ := HT8.out
        have a1 := Kd.R_lt hRp gp rfl
        have a2 := Kd.R_lt hRf gf rfl
        refine ⟨by omega, by omega, fun _ e => ?_⟩
        cases hs : s1.best with
        | none => rw [hs] at hbest; rw [show vb1 = Value.slice none 0 0 from hbest] at e; simp [Value.ownBlock] at e
        | some b => rw [hs] at hbest; have a3 := Kd.R_lt hbest.2 g7 e.symm; omega⟩
       clear hbel hcF0 hc70 hc71 hf70 hf71 HB9 HB7 HX7 HG7 HT8 HX8 HC8
       generalize ((w10.setCell ⟨g7, 0, none⟩ (.int .i8 own1)).setCell ⟨g7, 1, none⟩ (.int .i16 own2)) = w11 at HT11 HX11 HY11 ⊢
       have hc60 := (blk_cell HX11.out 0).trans rfl
       have hc61 := (blk_cell HX11.out 1).trans rfl
       have hc70 := (blk_cell HY11.out 0).trans rfl
       have hc71 := (blk_cell HY11.out 1).trans rfl
       go_upto_region 10 with ((with_reducible refine gate_callee (f := 77) rfl ?_); go_loud (refine goesL_ (some 86) rfl rfl Try.func77 (by kernel_rfl) rfl #[.agg #[.int .i8 (rd_T66 l i).f0, .int .u16 (rd_T66 l i).f1], .agg #[.int .i8 own1, .int .i16 own2]] rfl (by (try simp only [List.map_toArray, List.map_cons, List.map_nil]); first | done | rfl) ?_; (with_reducible refine (impl_done.calls _ _ _ _ fin _ A9'.out).mono ?_); rintro e w12 ⟨rfl, hb12⟩; have HB12 := Aside0.mk hb12; clear hb12; refine ⟨_, rfl, ?_⟩))
       have HT12 := Aside0.mk (HT11.out.below HB12.out)
       have HY12 := Aside0.mk (blk_below HY11.out HB12.out)
       clear hc60 hc61 hc70 hc71 HB12 HX11 HY11 HT11 A9'
       have hcF3 := (blk_cell HT12.out.1.1 3).trans rfl
       go_cut [99] (fun v99 wc => ∃ b : Bool, v99 = .bool b ∧ wc = w12 ∧ Aside0 (BestIs b s1 fin))
       case first =>
        clear H'
        have h7 := HT12.out.1.2.2.2.2.2.2
        cases hbs : s1.best with
        | none =>
         rw [hbs] at h7
         have hv : vb1 = .slice none 0 0 := h7
         have hn : Aside0 (BestIs false s1 fin) := ⟨by unfold BestIs; rw [hbs]; simp⟩
         have hcF2 : w12.cell? ⟨F, 2, none⟩ = some (.slice none 0 0) := (blk_cell HT12.out.1.1 2).trans (by rw [← hv]; rfl)
         have hq : ∀ W, (binOp .neq 35 (.slice none 0 0) (.slice none 0 0)).run Try.prog W = .ok (.bool false) W := fun W => Go.run_neq_slice_nil W 35 70 none 0 0 Try.underlying35
         clear hv h7 hbs
         go_wp2
         go_meet
         case rel => exact ⟨false, rfl, rfl, hn⟩
        | some b =>
         rw [hbs] at h7
         obtain ⟨⟨ab, cb, hv⟩, _⟩ := h7
         have hcF2 : w12.cell? ⟨F, 2, none⟩ = some (.slice (some ab) b.length cb) := (blk_cell HT12.out.1.1 2).trans (by rw [← hv]; rfl)
         have hq : ∀ W, (binOp .neq 35 (.slice (some ab) b.length cb) (.slice none 0 0)).run Try.prog W = .ok (.bool true) W := fun W => Go.run_neq_slice_nil W 35 70 (some ab) b.length cb Try.underlying35
         clear hv
         by_cases c5 : fin ≥ s1.length
         ·have hn : Aside0 (BestIs true s1 fin) := ⟨fun _ => ⟨by rw [hbs]; rfl, c5⟩, fun _ => rfl⟩
          have c5b : decide (s1.length ≤ fin) = true := decide_eq_true c5
          clear c5 hbs
          go_wp2
          go_meet
          case rel => exact ⟨true, rfl, rfl, hn⟩
         ·have hn : Aside0 (BestIs false s1 fin) := ⟨fun h => (by cases h), fun h => absurd h.2 c5⟩
          have c5b : decide (s1.length ≤ fin) = false := decide_eq_false c5
          clear c5 hbs
          go_wp2
          go_meet
          case rel => exact ⟨false, rfl, rfl, hn⟩
       case rest =>
        obtain ⟨b5, rfl, hwc, hn⟩ := hcut
        subst hwc
        have H := H'.out
        cases b5 with
        | true =>
        rw [if_pos (hn.out.1 rfl)] at H
        have H2 := Aside0.mk H
        clear H H' hn hcF3
        go_wp2
        go_roundg k1
        case measure => omega
        case rel => exact ⟨wrap64 (i + 1), s1, vb1, rfl, ⟨by have h0 := HI.out; have h1 := of_eq_true q1; unfold wrap64; omega⟩, H2, ⟨by have := HK1.out; omega⟩, HL1, HT12⟩
        | false =>
        rw [if_neg (fun h => by have := hn.out.2 h; cases this)] at H
        clear hn H' hcF3
        have hcF5 := (blk_cell HT12.out.1.1 5).trans rfl
        have hfF5 := blk_frozen HT12.out.1.1 5
        have hcF0 := (blk_cell HT12.out.1.1 0).trans rfl
        obtain ⟨tr, htr⟩ : ∃ t_ : Int, wrap64 (s1.tries + 1) = t_ := ⟨_, rfl⟩
        have HT13 := Aside0.mk (HT12.out.field (j := 5) (u := .int .i64 tr) (s2 := { s1 with tries := tr }) rfl rfl rfl rfl)
        rw [htr] at H
        have H' := Aside0.mk H
        clear H
        go_upto_region 12 with (fail)
        try rw [htr]
        clear htr
        have HY13 := Aside0.mk (blk_far HY12.out (p := ⟨F, 5, none⟩) (show g7 ≠ F from fun e => by subst e; exact absurd HY12.out (by rw [HT12.out.1.1]; simp)) (.int .i64 tr))
        generalize (World.setCell _ ⟨F, 5, none⟩ (.int .i64 tr)) = w13 at HT13 HY13 ⊢
        clear HT12 HY12 hcF5 hfF5 hcF0
        go_wp2
        have HT14 := Aside0.mk (HT13.out.below (below_drew1 (Below.refl _ _)))
        have HY14 := Aside0.mk (blk_drew HY13.out)
        clear HT13 HY13
        have hcF5 := (blk_cell HT14.out.1.1 5).trans rfl
        have hcF6 := (blk_cell HT14.out.1.1 6).trans rfl
        have H := H'.out
        by_cases c6 : tr > budget
        ·rw [if_pos c6] at H
         have c6b : decide (budget < tr) = true := decide_eq_true c6
         obtain ⟨rfl, rfl⟩ := Prod.mk.inj (Option.some.inj H)
         clear H H' c6
         refine look_r12 F tr budget _ (fun _ _ _ _ _ h => h) hcF5 hcF6 c6b ?_
         intros
         clear hcF5 hcF6
         generalize w13.drew = w14 at HT14 HY14 ⊢
         have hcF7 := (blk_cell HT14.out.1.1 7).trans rfl
         have hfF7 := blk_frozen HT14.out.1.1 7
         go_wp2
         go_ret
         exact ⟨rfl, HL1.out.1, HL1.out.2, vb1, HT14.out.field (j := 7) (u := .bool true) rfl rfl rfl rfl⟩
        ·rw [if_neg c6] at H
         have c6b : decide (budget < tr) = false := decide_eq_false c6
         clear c6 H'
         refine look_r12 F tr budget _ (fun _ _ _ _ _ h => h) hcF5 hcF6 c6b ?_
         intros
         clear hcF5 hcF6 c6b
         generalize w13.drew = w14 at HT14 HY14 ⊢
         have c7 : 0 ≤ own1 := by
          rcases Int.lt_or_le own1 0 with h0 | h0
          ·rw [if_neg (by omega)] at H; cases H
          ·exact h0
         rw [if_pos c7] at H
         have c8 : own1 < (s1.free.length : Int) := by
          rcases Int.lt_or_le own1 (s1.free.length : Int) with h0 | h0
          ·exact h0
          ·rw [if_neg (by omega)] at H; cases H
         rw [if_pos c8] at H
         replace H := Option.bind_eq_some_iff.mp H
         obtain ⟨⟨r2, s2⟩, AR, H⟩ := H
         dsimp only at H
         have AR' := Aside0.mk AR
         have H' := Aside0.mk H
         rw [HL1.out.2] at c8
         have p7 := eq_true c7
         have q8 := eq_true c8
         clear AR H c7 c8
         go_wp2
         refine look_r15 F S g7 gp gf l.length cp nh cf i own1 (rd s1.free own1) (rd_T70 s1.plan i).f0 (rd_T70 s1.plan i).f1 (fun _ _ _ _ _ h => h) ((blk_cell HT14.out.1.1 0).trans rfl) ((blk_cell HT14.out.1.2.1 1).trans rfl) ((blk_cell HT14.out.1.2.1 2).trans rfl) ((blk_cell HY14.out 0).trans rfl) (HT14.out.cellf rfl own1 (of_eq_true p7) (of_eq_true q8)).1 (HT14.out.cells rfl i HI.out (of_eq_true q1)).1 (HT14.out.cells rfl i HI.out (of_eq_true q1)).2.1 p1 q1 p7 q8 ?_
         intro g10 w16
         intros
         rename_i hg10 hb10 hZ10
         have HT16 := Aside0.mk (HT14.out.below hb10)
         have HY16 := Aside0.mk (blk_below HY14.out hb10)
         have HZ16 := Aside0.mk hZ10
         have HN10 : Aside0 (gp ≠ g10 ∧ gf ≠ g10 ∧ F ≠ g10 ∧ S ≠ g10 ∧ F ≠ g7 ∧ S ≠ g7) := ⟨by
          obtain ⟨b1, b2, b3, b4, _, _⟩ := HT14.out.blocks rfl rfl
          exact ⟨by omega, by omega, by omega, by omega, blk_ne HT14.out.1.1 HY14.out (by decide), blk_ne HT14.out.1.2.1 HY14.out (by decide)⟩⟩
         clear hg10 hb10 hZ10 HT14 HY14
         go_wp2
         refine look_r16 g7 gp gf l.length cp nh cf i own1 own2 fin (fun _ _ _ _ _ h => h) HT16.out rfl rfl rfl rfl HY16.out HN7.out.1 HN7.out.2.1 HN10.out.2.2.2.2.1 HI.out p1 q1 p7 q8 ?_
         intro w20
         intros
         rename_i hT20 hfr20
         have HT20 := Aside0.mk hT20
         have HY20 := Aside0.mk (hfr20 g7 _ HY16.out HN7.out.1.symm HN7.out.2.1.symm HN10.out.2.2.2.2.1.symm)
         have HZ20 := Aside0.mk (hfr20 g10 _ HZ16.out HN10.out.1.symm HN10.out.2.1.symm HN10.out.2.2.1.symm)
         clear hT20 hfr20 HT16 HY16 HZ16
         have AR := AR'.out
         have H := H'.out
         clear AR' H'
         obtain ⟨md, hmd⟩ : ∃ m_ : Int, mx day fin = m_ := ⟨_, rfl⟩
         rw [hmd] at AR
         have hmd_ : (if day < fin then fin else day) = md := hmd
         have HIH := Aside0.mk (ih k1 (by have := HK1.out; omega) vb1 _ s2 md r2 w20 ((List.length_set).trans HL1.out.1) ((List.length_set).trans HL1.out.2) (HT20.out.reset _) AR)
         clear AR hmd
         cases r2 with
         | true =>
          rw [if_pos rfl] at H
          obtain ⟨rfl, rfl⟩ := Prod.mk.inj (Option.some.inj H)
          clear H
          go_wp2_with ((with_reducible refine gate_callee (f := 91) rfl ?_); go_loud (refine goesL_ (some 175) rfl rfl Try.func91 (by kernel_rfl) rfl #[.pointer (some ⟨F, 0, none⟩), .int .i64 md] rfl (by (try simp only [List.map_toArray, List.map_cons, List.map_nil]); first | done | rfl) ?_; (with_reducible refine (HIH.out).mono ?_); rintro e w21 ⟨rfl, hpl2, hfl2, vb2, hT21⟩; have HT21 := Aside0.mk hT21; have HL2 := Aside0.mk (And.intro hpl2 hfl2); clear hT21 hpl2 hfl2; refine ⟨_, rfl, ?_⟩))
          go_ret
          exact ⟨rfl, HL2.out.1, HL2.out.2, vb2, HT20.out.then HT21.out rfl rfl⟩
         | false =>
          rw [if_neg (by decide)] at H
          have H' := Aside0.mk H
          clear H
          go_wp2_with ((with_reducible refine gate_callee (f := 91) rfl ?_); go_loud (refine goesL_ (some 175) rfl rfl Try.func91 (by kernel_rfl) rfl #[.pointer (some ⟨F, 0, none⟩), .int .i64 md] rfl (by (try simp only [List.map_toArray, List.map_cons, List.map_nil]); first | done | rfl) ?_; (with_reducible refine (HIH.out).mono ?_); rintro e w21 ⟨rfl, hpl2, hfl2, vb2, hT21⟩; have HT21 := Aside0.mk hT21; have HL2 := Aside0.mk (And.intro hpl2 hfl2); clear hT21 hpl2 hfl2; refine ⟨_, rfl, ?_⟩))
          have HY21 := Aside0.mk ((HT21.out.2.2.1 g7 (blk_lt HY20.out) HN10.out.2.2.2.2.1.symm HN10.out.2.2.2.2.2.symm (fun e => HN7.out.1 (Option.some.inj e).symm) (fun e => HN7.out.2.1 (Option.some.inj e).symm)).trans HY20.out)
          have HZ21 := Aside0.mk ((HT21.out.2.2.1 g10 (blk_lt HZ20.out) HN10.out.2.2.1.symm HN10.out.2.2.2.1.symm (fun e => HN10.out.1 (Option.some.inj e).symm) (fun e => HN10.out.2.1 (Option.some.inj e).symm)).trans HZ20.out)
          have HT22 := Aside0.mk (HT20.out.then HT21.out rfl rfl)
          clear HT20 HT21 HY20 HZ20 HIH hmd_
          refine look_r19 g7 gp gf l.length cp nh cf i own1 own2 (rd s1.free own1) g10 (rd_T70 s1.plan i) (fun _ _ _ _ _ h => h) HT22.out rfl rfl rfl rfl HY21.out HZ21.out HN7.out.1 HN7.out.2.1 HN10.out.2.2.2.2.1 HN10.out.1 HN10.out.2.1 HN10.out.2.2.1 HI.out p1 q1 p7 q8 ?_
          intro w25
          intros
          rename_i hT25 hfr25
          have HT25 := Aside0.mk hT25
          clear hT25 hfr25 HT22 HY21 HZ21
          go_wp2
          go_roundg k1
          case measure => omega
          case rel => exact ⟨wrap64 (i + 1), _, vb2, rfl, ⟨by have h0 := HI.out; have h1 := of_eq_true q1; unfold wrap64; omega⟩, H', ⟨by have := HK1.out; omega⟩, ⟨(List.length_set).trans HL2.out.1, (List.length_set).trans HL2.out.2⟩, HT25⟩
    ·rw [if_neg c1] at H
     have c1b : decide (i < (l.length : Int)) = false := decide_eq_false c1
     obtain ⟨rfl, rfl⟩ := Prod.mk.inj (Option.some.inj H)
     go_wp2
     go_ret
     exact ⟨rfl, HL1.out.1, HL1.out.2, vb1, HT.out⟩
set_option maxHeartbeats 8000000 in
set_option maxRecDepth 100000 in
theorem newShop_calls (n cL : Nat) (AL : Option Addr) (hands : Int) (w : World) (hn : n ≤ 12) (h0 : 0 ≤ hands) (h1 : hands ≤ 100) :
  Calls Try.prog 75 #[.slice AL n cL, .int .i64 hands] w fun e w' => ∃ g gp gf cp cf : Nat, e = .returned (.pointer (some ⟨g, 0, none⟩)) ∧ w'.heap[g]? = some (.cells #[.slice AL n cL, .slice (some ⟨gp, 0, none⟩) n cp, .slice (some ⟨gf, 0, none⟩) hands.toNat cf] 109 (0, 0)) ∧ w.heap.size ≤ g ∧
   Kd.R k70 70 w' w.heap.size (fun _ => True) (.slice (some ⟨gp, 0, none⟩) n cp) (List.replicate n z70) ∧ Kd.R (Kd.int .i64) 2 w' w.heap.size (fun _ => True) (.slice (some ⟨gf, 0, none⟩) hands.toNat cf) (List.replicate hands.toNat 0) ∧ Below w.heap.size w w' := by
 go_enter Try.func75, Try.ntmps75
 go_wp2
 refine shop_r1 n cL AL hands (fun _ _ _ _ _ h => h) hn h0 h1 ?_
 intro g gp gf cp cf w1
 intros
 rename_i hX hG hP hF hB
 have HX := Aside0.mk hX
 have HP := Aside0.mk hP
 have HF := Aside0.mk hF
 have HB := Aside0.mk hB
 have HG := Aside0.mk hG
 clear hX hG hP hF hB
 go_wp2
 go_ret
 exact ⟨g, gp, gf, cp, cf, rfl, HX.out, HG.out, Kd.R_mono HP.out (fun _ _ => trivial), Kd.R_mono HF.out (fun _ _ => trivial), HB.out⟩
def shopLS (l : List S66) (hands : Int) : LS := ⟨0, none, 0, 0, false, List.replicate l.length z70, List.replicate hands.toNat 0⟩
def impl_best.f (k : Nat) (l0 : List S66) (a1 a2 : Int) : Option (List S70 × Int × Bool) :=
 if l0.length ≤ 12 ∧ 0 ≤ a1 ∧ a1 ≤ 100 then (impl_bound.f k l0 a1).bind fun bd => (lookG l0 bd a2 k none (shopLS l0 a1) 0).bind fun r => some (r.2.best.getD [], r.2.length, !r.2.over) else none
theorem lookG_mono (l : List S66) (bd bu : Int) : ∀ k i s day, LeO (lookG l bd bu k i s day) (lookG l bd bu (k + 1) i s day) := by
 intro k
 induction k with
 | zero => intro i s day r h; simp [lookG] at h
 | succ k ih =>
  intro i s day
  cases i with
  | none =>
   unfold lookG
   split
   ·exact LeO.refl _
   ·exact ih _ _ _
  | some i =>
   unfold lookG
   split
   ·split
    ·exact ih _ _ _
    ·split
     ·exact ih _ _ _
     ·refine LeO.bind (impl_shop_slot.mono _ _ _ _ k) (fun own => LeO.bind (LeO.refl _) (fun fin => ?_))
      split
      ·exact ih _ _ _
      ·split
       ·exact LeO.refl _
       ·split
        ·split
         ·refine LeO.bind (ih _ _ _) (fun r => ?_)
          split
          ·exact LeO.refl _
          ·exact ih _ _ _
         ·exact LeO.refl _
        ·exact LeO.refl _
   ·exact LeO.refl _
theorem impl_best.mono : ∀ a0 a1 a2 k, LeO (impl_best.f k a0 a1 a2) (impl_best.f (k + 1) a0 a1 a2) := by
 intro a0 a1 a2 k
 unfold impl_best.f
 split
 ·exact LeO.bind (impl_bound.mono _ _ k) (fun bd => LeO.bind (lookG_mono _ _ _ k _ _ _) (fun _ => LeO.refl _))
 ·exact LeO.refl _
set_option maxHeartbeats 8000000 in
set_option maxRecDepth 100000 in
theorem impl_best.calls (k : Nat) (A0 : Option Addr) (c0 : Nat) (l0 : List (S66)) (a1 : Int) (a2 : Int) (r1 : List S70) (r2 : Int) (r3 : Bool) (w : World) (hr0 : Kd.C k66 w A0 l0.length l0) (hc0 : l0.length ≤ c0) (h : impl_best.f k l0 a1 a2 = some (r1, r2, r3)) :
  Calls Try.prog 52 #[.slice A0 l0.length c0, .int .i64 a1, .int .i64 a2] w fun e w' => ∃ v0_ : Value, e = .returned (.tuple #[v0_, .int .i64 r2, .bool r3]) ∧ Kd.R k70 70 w' w.heap.size (fun _ => True) v0_ r1 ∧ Below w.heap.size w w' := by
 unfold impl_best.f at h
 by_cases hd : l0.length ≤ 12 ∧ 0 ≤ a1 ∧ a1 ≤ 100
 ·rw [if_pos hd] at h
  obtain ⟨hn, h0, h1⟩ := hd
  replace h := Option.bind_eq_some_iff.mp h
  obtain ⟨bd, hbd, h⟩ := h
  replace h := Option.bind_eq_some_iff.mp h
  obtain ⟨⟨rb, s'⟩, hl, h⟩ := h
  have h2 := Prod.mk.inj (Option.some.inj h)
  clear h
  obtain ⟨rfl, h3⟩ := h2
  obtain ⟨rfl, rfl⟩ := Prod.mk.inj h3
  have HR := Aside0.mk hr0
  have HC := Aside0.mk hc0
  have HL := Aside0.mk hl
  have HBD := Aside0.mk hbd
  have HS := Aside0.mk (newShop_calls l0.length c0 A0 a1 w hn h0 h1)
  have HN := Aside0.mk (And.intro hn h0)
  clear hr0 hc0 hl hbd h3 hn h0 h1
  go_enter Try.func52, Try.ntmps52
  go_upto_region 2 with (first
   | ((with_reducible refine gate_callee (f := 75) rfl ?_); go_loud (refine goesL_ (some 12) rfl rfl Try.func75 (by kernel_rfl) rfl #[.slice A0 l0.length c0, .int .i64 a1] rfl (by (try simp only [List.map_toArray, List.map_cons, List.map_nil]); first | done | rfl) ?_; (with_reducible refine (HS.out).mono ?_); rintro e w1 ⟨S, gp, gf, cp, cf, rfl, hX, hG, hP, hF, hB⟩; have HX := Aside0.mk hX; have HG := Aside0.mk hG; have HP := Aside0.mk hP; have HF := Aside0.mk hF; have HB := Aside0.mk hB; have HBC := Aside0.mk (impl_bound.calls k A0 c0 l0 a1 bd w1 (Kd.C_below HR.out hB) HC.out HBD.out); clear hX hG hP hF hB; refine ⟨_, rfl, ?_⟩))
   | ((with_reducible refine gate_callee (f := 81) rfl ?_); go_loud (refine goesL_ (some 15) rfl rfl Try.func81 (by kernel_rfl) rfl #[.slice A0 l0.length c0, .int .i64 a1] rfl (by (try simp only [List.map_toArray, List.map_cons, List.map_nil]); first | done | rfl) ?_; (with_reducible refine (HBC.out).mono ?_); rintro e w2 ⟨rfl, hB2⟩; have HB2 := Aside0.mk hB2; clear hB2; refine ⟨_, rfl, ?_⟩))
   | ((with_reducible refine gate_dst (N := 18) rfl ?_); go_loud (refine box_event ?hg (N := 18) ?hd (cs := #[.pointer (some ⟨S, 0, none⟩), .int .u16 0, .slice none 0 0, .int .i64 0, .int .i64 bd, .int .i64 0, .int .i64 a2, .bool false]) (t := 125) ?hr ?_; (case hd => rfl); (case hg => rfl); (case hr => first | (go_simp; done) | (go_simp; rfl)); intro F hF w3 hbox hb; have HF3 := Aside0.mk hF; have HX3 := Aside0.mk hbox; have HB3 := Aside0.mk hb; clear hF hbox hb)))
  have HT : Aside0 (ST w w3 w3 F S A0 c0 l0 bd a2 ⟨.slice (some ⟨gp, 0, none⟩) l0.length cp, .slice (some ⟨gf, 0, none⟩) a1.toNat cf, .slice none 0 0⟩ ⟨.slice (some ⟨gp, 0, none⟩) l0.length cp, .slice (some ⟨gf, 0, none⟩) a1.toNat cf, .slice none 0 0⟩ (shopLS l0 a1)) := ⟨by
   have hb13 := below_then HB2.out HB2.out.size HB3.out
   have hb03 := below_then HB.out HB.out.size hb13
   refine ⟨⟨HX3.out, blk_below HX.out hb13, ?_, HG.out, Kd.R_mono (Kd.R_below HP.out hb13) (fun _ _ => by simp [Value.ownBlock]), Kd.R_below HF.out hb13, rfl⟩, hb03, fun _ _ _ _ _ _ => rfl, Nat.le_refl _⟩
   rw [HF3.out]
   exact Nat.le_trans HB.out.size HB2.out.size⟩
  have HLC := Aside0.mk (look_calls l0 HN.out.1 bd a2 w F S A0 c0 HR.out HC.out gp gf cp cf a1.toNat k (.slice none 0 0) (shopLS l0 a1) s' 0 rb w3 (List.length_replicate) (List.length_replicate) HT.out HL.out)
  clear HT HX3 HF3 HB3 HB2 HBC HX HG HP HF HB
  go_wp2_with ((with_reducible refine gate_callee (f := 91) rfl ?_); go_loud (refine goesL_ (some 20) rfl rfl Try.func91 (by kernel_rfl) rfl #[.pointer (some ⟨F, 0, none⟩), .int .i64 0] rfl (by (try simp only [List.map_toArray, List.map_cons, List.map_nil]); first | done | rfl) ?_; (with_reducible refine (HLC.out).mono ?_); rintro e w4 ⟨rfl, _, _, vb2, hT4⟩; have HT4 := Aside0.mk hT4; clear hT4; refine ⟨_, rfl, ?_⟩))
  have hvb : ∃ A c, vb2 = .slice A (s'.best.getD []).length c ∧ Kd.R k70 70 w4 w.heap.size (fun _ => True) vb2 (s'.best.getD []) := by
   have h7 := HT4.out.1.2.2.2.2.2.2
   cases hbs : s'.best with
   | none =>
    rw [hbs] at h7
    have hv : vb2 = .slice none 0 0 := h7
    rw [hv]
    exact ⟨none, 0, rfl, Kd.R_nil _ _ _ _ _⟩
   | some b =>
    rw [hbs] at h7
    obtain ⟨⟨a, c, hv⟩, hr⟩ := h7
    exact ⟨some a, c, hv, Kd.R_mono hr (fun _ _ => trivial)⟩
  obtain ⟨Av, cv, rfl, hrv⟩ := hvb
  have HV := Aside0.mk hrv
  clear hrv
  refine best_r3 F _ cv Av s'.length s'.over (fun _ _ _ _ _ h => h) ((blk_cell HT4.out.1.1 2).trans rfl) ((blk_cell HT4.out.1.1 3).trans rfl) ((blk_cell HT4.out.1.1 7).trans rfl) ?_
  intros
  go_wp2
  go_ret3
  exact ⟨_, rfl, Kd.R_drew HV.out, below_drew1 HT4.out.2.1⟩
 ·rw [if_neg hd] at h
  cases h

end Go.Proofs.Ythocaohlimollaa.XB
