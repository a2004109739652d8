/- Contracts of functions of the given program, each for all arguments at which its Lean function answers; written by a program of this session (wip/xprint.py) over the print of the kit. -/
import Derived.Test.YthocaohlimollaaXB0
namespace Go.Proofs.Ythocaohlimollaa.XB
open Go.RowKit Go.Proofs.YthocaohlimollaaW.PrintWords Go.Proofs.YthocaohlimollaaW.PrintLast Go.Proofs.YthocaohlimollaaW.PrintMore
attribute [local go_sem] max2_int min2_int max_two min_two max_three min_three max_four min_four   -- for this text's walks alone
set_option linter.unusedVariables false
set_option linter.unusedSimpArgs false

/-- The region of that number in a function's text. -/
def findRegion (n : Nat) : Code → Option Code
 | .region m os b => if m == n then some (.region m os b) else none
 | .loop c => findRegion n c
 | .seq a b => match findRegion n a with
  | some c => some c
  | none => findRegion n b
 | .block _ c => findRegion n c
 | .scope c => findRegion n c
 | .cond _ a b => match findRegion n a with
  | some c => some c
  | none => findRegion n b
 | _ => none
def regionOf (f : Func) (n : Nat) : Code := (f.body.bind (findRegion n)).getD .skip
theorem linfo70 : (Try.prog.info? 70).map (fun i => (i.zero, i.size, i.bytes)) = some (some (.agg #[(.int .i8 0), (.int .i16 0)]), 2, 4) := by kernel_rfl
theorem own_slice_at {α : Type} {d : Kd α} {e : Nat} {W : World} {base : Nat} {ok : Nat → Prop} {v : Value} {xs : List α} (h : d.R e W base ok v xs) {b : Nat} (hb : v.ownBlock = some b) : ∃ ad c, v = .slice (some ad) xs.length c := by
 obtain ⟨A, c, rfl⟩ := Kd.R_slice h
 cases A with
 | none => simp [Value.ownBlock] at hb
 | some ad => exact ⟨ad, c, rfl⟩
set_option maxHeartbeats 8000000 in
set_option maxRecDepth 100000 in
theorem clone_slots (ad : Addr) (c0 : Nat) (l0 : List S70) (w : World) (hr0 : Kd.C k70 w (some ad) l0.length l0) (hc0 : l0.length ≤ c0) (hl : l0.length ≤ 1000000) :
  Calls Try.prog 121 #[.slice (some ad) l0.length c0] w fun e w' => ∃ (a1 : Addr) (c1 : Nat), e = .returned (.slice (some a1) l0.length c1) ∧ Kd.R k70 70 w' w.heap.size (fun _ => True) (.slice (some a1) l0.length c1) l0 ∧ Below w.heap.size w w' := by
 have hu35 := Try.underlying35
 have HR0 := Aside0.mk hr0
 have HL := Aside0.mk hl
 clear hr0 hc0 hl
 have hq : ∀ W, (binOp .eql 35 (.slice (some ad) l0.length c0) (.slice none 0 0)).run Try.prog W = .ok (.bool false) W := fun W => Go.Lib.run_eql_slice_nil W 35 70 _ _ _ _ _ Try.underlying35
 go_enter Try.func121, Try.ntmps121
 go_wp2_with (first
  | ((with_reducible refine gate_dst (N := 5) rfl ?_); (refine Kd.R_lit k70 _ 70 ?hg (N := 5) ?hd (xs := ([] : List S70)) (inner := []) (ok := fun _ => True) (okp := fun _ => True) ?hr ?hp (fun _ hk => hk) trivial (Below.refl _ _) (Nat.le_refl _) (by simp) ?_; (case hd => rfl); (case hg => rfl); (case hr => first | (go_simp; done) | (go_simp; rfl)); (case hp => exact (Reps.none _ _)); intro v1 w1 ho hb hg hnew; obtain ⟨b1, hb1, _⟩ := hnew; have HN := Aside0.mk hb1; have HO := Aside0.mk ho; have HB := Aside0.mk hb; clear ho hb hg hb1))
  | ((with_reducible refine gate_builtin (b := .append) (xs := #[.tmp 5, .tmp 6]) rfl ?_); (refine Kd.R_append_rows k70 (w0 := w) w.heap.size rfl (.tmp 5) (.tmp 6) 35 70 (.agg #[(.int .i8 0), (.int .i16 0)]) 4 rfl Try.underlying35 linfo70 rfl (by decide) (by omega) v1 [] l0 (some ad) l0.length c0 (fun _ => True) (fun _ => False) rfl rfl HO.out (Kd.C_below HR0.out HB.out) (fun x cs hk => by rw [k70_open hk]; exact k70_mkM _ _ _ x) (fun _ hk => hk.elim) (fun _ _ => trivial) HB.out (below_size HB.out) (by have := HL.out; simp; omega) ?_; intro v2 w2 ho hb hg hat; rw [List.nil_append] at ho; obtain ⟨b2, hb2⟩ : ∃ b, v2.ownBlock = some b := (by rcases hat with h | ⟨b, h, _⟩; exact ⟨_, h.trans HN.out⟩; exact ⟨b, h⟩); obtain ⟨a2, c2, rfl⟩ := own_slice_at ho hb2; have HO2 := Aside0.mk ho; have HB2 := Aside0.mk hb; clear ho hb hg hat hb2)))
 go_ret
 exact ⟨a2, c2, rfl, HO2.out, HB2.out⟩
/-- What the program's search holds. -/
structure LS where
 taken : Int
 best : Option (List S70)
 length : Int
 tries : Int
 over : Bool
 plan : List S70
 free : List Int
/-- The values of three rows. -/
structure LV where
 vp : Value
 vf : Value
 vb : Value
def fullD (l : List S66) : Int := IntKind.u16.wrap (IntKind.u16.wrap (2 ^ l.length) - 1)
/-- The blocks of a search. -/
def FS (w0 W : World) (F S : Nat) (AL : Option Addr) (cL : Nat) (l : List S66) (bound budget : Int) (v : LV) (s : LS) : Prop :=
 W.heap[F]? = some (.cells #[.pointer (some ⟨S, 0, none⟩), .int .u16 s.taken, v.vb, .int .i64 s.length, .int .i64 bound, .int .i64 s.tries, .int .i64 budget, .bool s.over] 125 (0, 0)) ∧
 W.heap[S]? = some (.cells #[.slice AL l.length cL, v.vp, v.vf] 109 (0, 0)) ∧ w0.heap.size ≤ F ∧ w0.heap.size ≤ S ∧
 Kd.R k70 70 W w0.heap.size (fun k => some k ≠ v.vb.ownBlock) v.vp s.plan ∧ Kd.R (Kd.int .i64) 2 W w0.heap.size (fun _ => True) v.vf s.free ∧
 (match s.best with
  | none => v.vb = .slice none 0 0
  | some b => (∃ (a : Addr) (c : Nat), v.vb = .slice (some a) b.length c) ∧ Kd.R k70 70 W w0.heap.size (fun k => some k ≠ v.vp.ownBlock) v.vb b)
/-- All other blocks are as they were. -/
def Still (W W' : World) (F S : Nat) (v : LV) : Prop := ∀ k, k < W.heap.size → k ≠ F → k ≠ S → some k ≠ v.vp.ownBlock → some k ≠ v.vf.ownBlock → W'.heap[k]? = W.heap[k]?
/-- No better than the best. -/
def BestIs (b : Bool) (s : LS) (fin : Int) : Prop := b = true ↔ (s.best.isSome = true ∧ fin ≥ s.length)
theorem FS.below {w0 W W1 : World} {F S : Nat} {AL : Option Addr} {cL : Nat} {l : List S66} {bound budget : Int} {v : LV} {s : LS} (h : FS w0 W F S AL cL l bound budget v s) (hb : Below W.heap.size W W1) : FS w0 W1 F S AL cL l bound budget v s := by
 obtain ⟨h1, h2, h3, h4, h5, h6, h7⟩ := h
 refine ⟨blk_below h1 hb, blk_below h2 hb, h3, h4, Kd.R_below h5 hb, Kd.R_below h6 hb, ?_⟩
 cases hs : s.best with
 | none => rw [hs] at h7; exact h7
 | some b => rw [hs] at h7; exact ⟨h7.1, Kd.R_below h7.2 hb⟩
theorem Still.below {w W W1 : World} {F S : Nat} {v : LV} (h : Still w W F S v) (hw : w.heap.size ≤ W.heap.size) (hb : Below W.heap.size W W1) : Still w W1 F S v :=
 fun k hk h1 h2 h3 h4 => (hb.block k (by omega)).trans (h k hk h1 h2 h3 h4)
/-- A search's blocks, and all that stays. -/
def ST (w0 w W : World) (F S : Nat) (AL : Option Addr) (cL : Nat) (l : List S66) (bound budget : Int) (v0 v : LV) (s : LS) : Prop :=
 FS w0 W F S AL cL l bound budget v s ∧ Below w0.heap.size w0 W ∧ Still w W F S v0 ∧ w.heap.size ≤ W.heap.size
section
variable {w0 w W W1 : World} {F S : Nat} {AL : Option Addr} {cL : Nat} {l : List S66} {bound budget : Int} {v0 v : LV} {s : LS}
theorem ST.below (h : ST w0 w W F S AL cL l bound budget v0 v s) (hb : Below W.heap.size W W1) : ST w0 w W1 F S AL cL l bound budget v0 v s :=
 ⟨h.1.below hb, below_then h.2.1 h.2.1.size hb, h.2.2.1.below h.2.2.2 hb, Nat.le_trans h.2.2.2 hb.size⟩
theorem ST.field (h : ST w0 w W F S AL cL l bound budget v0 v s) {j : Nat} {u : Value} {s2 : LS} (hp : s2.plan = s.plan) (hf : s2.free = s.free) (hb : s2.best = s.best)
  (hc : (#[.pointer (some ⟨S, 0, none⟩), .int .u16 s.taken, v.vb, .int .i64 s.length, .int .i64 bound, .int .i64 s.tries, .int .i64 budget, .bool s.over] : Array Value).setIfInBounds j u = #[.pointer (some ⟨S, 0, none⟩), .int .u16 s2.taken, v.vb, .int .i64 s2.length, .int .i64 bound, .int .i64 s2.tries, .int .i64 budget, .bool s2.over]) :
  ST w0 w (W.setCell ⟨F, j, none⟩ u) F S AL cL l bound budget v0 v s2 := by
 obtain ⟨⟨h1, h2, h3, h4, h5, h6, h7⟩, hB, hSt, hsz⟩ := h
 have hSF : S ≠ F := blk_ne h2 h1 (by decide)
 refine ⟨⟨blk_put h1 j u hc, blk_far h2 hSF u, h3, h4, ?_, ?_, ?_⟩, below_set hB h3, fun k hk a b c d => ?_, by simpa using hsz⟩
 ·rw [hp]; exact Kd.R_set h5 h1 (by decide) j u
 ·rw [hf]; exact Kd.R_set h6 h1 (by decide) j u
 ·rw [hb]
  cases hs : s.best with
  | none => rw [hs] at h7; exact h7
  | some b => rw [hs] at h7; exact ⟨h7.1, Kd.R_set h7.2 h1 (by decide) j u⟩
 ·rw [Below.heap_setCell _ _ _ _ a]; exact hSt k hk a b c d
theorem ST.row {s2 : LS} {g : Nat} {t : TypeId} (h : ST w0 w W F S AL cL l bound budget v0 v s) (hg : W.grownBy W1 (some g)) (hgo : ∃ cells, W.heap[g]? = some (.cells cells t (0, 0))) (hge : w0.heap.size ≤ g) (ht : t = 70 ∨ t = 2) (h0 : some g = v0.vp.ownBlock ∨ some g = v0.vf.ownBlock)
  (e1 : s2.taken = s.taken) (e2 : s2.best = s.best) (e3 : s2.length = s.length) (e4 : s2.tries = s.tries) (e5 : s2.over = s.over)
  (hp : Kd.R k70 70 W1 w0.heap.size (fun k => some k ≠ v.vb.ownBlock) v.vp s2.plan) (hf : Kd.R (Kd.int .i64) 2 W1 w0.heap.size (fun _ => True) v.vf s2.free) (hne : some g ≠ v.vb.ownBlock) :
  ST w0 w W1 F S AL cL l bound budget v0 v s2 := by
 obtain ⟨⟨h1, h2, h3, h4, h5, h6, h7⟩, hB, hSt, hsz⟩ := h
 obtain ⟨cells, hgo⟩ := hgo
 have hF : F ≠ g := blk_ne h1 hgo (by rcases ht with rfl | rfl <;> decide)
 have hS : S ≠ g := blk_ne h2 hgo (by rcases ht with rfl | rfl <;> decide)
 refine ⟨⟨?_, blk_grown h2 hg (by simpa using hS), h3, h4, hp, hf, ?_⟩, hB.grown hg hB.size (fun k hk => by cases hk; exact hge), fun k hk a b c d => ?_, Nat.le_trans hsz hg.size⟩
 ·rw [e1, e3, e4, e5]; exact blk_grown h1 hg (by simpa using hF)
 ·rw [e2]
  cases hs : s.best with
  | none => rw [hs] at h7; exact h7
  | some b => rw [hs] at h7; exact ⟨h7.1, Kd.R_grown1 h7.2 rfl hg hne⟩
 ·have hkg : some k ≠ some g := by
   rcases h0 with e | e
   ·rw [e]; exact c
   ·rw [e]; exact d
  exact (hg.block k (by omega) hkg).trans (hSt k hk a b c d)
theorem put70 {base g n cap : Nat} {ok : Nat → Prop} {xs : List S70} (h : Kd.R k70 70 W base ok (.slice (some ⟨g, 0, none⟩) n cap) xs) (i : Int) (h0 : 0 ≤ i) (h1 : i < n) (x : S70) :
  Kd.R k70 70 ((W.setCell ⟨g, i.toNat * 2, none⟩ (.int .i8 x.f0)).setCell ⟨g, i.toNat * 2 + 1, none⟩ (.int .i16 x.f1)) base ok (.slice (some ⟨g, 0, none⟩) n cap) (xs.set i.toNat x) ∧ W.grownBy ((W.setCell ⟨g, i.toNat * 2, none⟩ (.int .i8 x.f0)).setCell ⟨g, i.toNat * 2 + 1, none⟩ (.int .i16 x.f1)) (some g) := by
 obtain ⟨c, hcl, _, hcc, _⟩ := Kd.R_elem h z70 i h0 h1
 exact Kd.R_seg (okp := fun _ => False) h i h0 h1 hcl hcc (j := 0) (seg := [.int .i8 x.f0, .int .i16 x.f1]) (by simp [show k70.sz = 2 from rfl]) (x' := x) (by
  have : c.drop 2 = [] := List.drop_eq_nil_of_le (by rw [hcl]; exact Nat.le_refl _)
  simp only [List.take_zero, List.nil_append, Nat.zero_add, List.length_cons, List.length_nil, this, List.append_nil]
  exact k70_mkM _ _ _ x) (fun _ hk => hk.elim)
theorem ST.plan {gp n cp : Nat} (h : ST w0 w W F S AL cL l bound budget v0 v s) (hv : v.vp = .slice (some ⟨gp, 0, none⟩) n cp) (h0 : some gp = v0.vp.ownBlock) (i : Int) (hi0 : 0 ≤ i) (hi1 : i < n) (x : S70) {s2 : LS} (hs : s2 = { s with plan := s.plan.set i.toNat x }) :
  ST w0 w ((W.setCell ⟨gp, i.toNat * 2, none⟩ (.int .i8 x.f0)).setCell ⟨gp, i.toNat * 2 + 1, none⟩ (.int .i16 x.f1)) F S AL cL l bound budget v0 v s2 := by
 subst hs
 have h5 := h.1.2.2.2.2.1
 have h6 := h.1.2.2.2.2.2.1
 have hb : v.vp.ownBlock = some gp := by rw [hv]; rfl
 obtain ⟨cells, hty⟩ := Kd.R_typed h5 gp hb
 have hne := h5.1 gp hb
 have hbase := Kd.R_base h5 gp hb
 rw [hv] at h5
 obtain ⟨hp, hg⟩ := put70 h5 i hi0 hi1 x
 refine h.row hg ⟨cells, hty⟩ hbase (.inl rfl) (.inl h0) rfl rfl rfl rfl rfl (by rw [hv]; exact hp) (Kd.R_grown1 h6 rfl hg (Kd.R_ne h6 hty (by decide))) hne
theorem ST.free {gf n cf : Nat} (h : ST w0 w W F S AL cL l bound budget v0 v s) (hv : v.vf = .slice (some ⟨gf, 0, none⟩) n cf) (h0 : some gf = v0.vf.ownBlock) (i : Int) (x : Int) {s2 : LS} (hs : s2 = { s with free := s.free.set i.toNat x }) :
  ST w0 w (W.setCell ⟨gf, i.toNat, none⟩ (.int .i64 x)) F S AL cL l bound budget v0 v s2 := by
 subst hs
 have h5 := h.1.2.2.2.2.1
 have h6 := h.1.2.2.2.2.2.1
 have h7 := h.1.2.2.2.2.2.2
 have hb : v.vf.ownBlock = some gf := by rw [hv]; rfl
 obtain ⟨cells, hty⟩ := Kd.R_typed h6 gf hb
 have hbase := Kd.R_base h6 gf hb
 rw [hv] at h6
 obtain ⟨hp, hg⟩ := Kd.R_putg h6 i x
 refine h.row hg ⟨cells, hty⟩ hbase (.inr rfl) (.inr h0) rfl rfl rfl rfl rfl (Kd.R_grown1 h5 rfl hg (Kd.R_ne h5 hty (by decide))) (by rw [hv]; exact hp) ?_
 cases hs : s.best with
 | none => rw [hs] at h7; rw [h7]; simp [Value.ownBlock]
 | some b => rw [hs] at h7; exact Kd.R_ne h7.2 hty (by decide)
theorem ST.reset (h : ST w0 w W F S AL cL l bound budget v0 v s) (v1 : LV) : ST w0 W W F S AL cL l bound budget v1 v s := ⟨h.1, h.2.1, fun _ _ _ _ _ _ => rfl, Nat.le_refl _⟩
theorem ST.then {v1 v2 : LV} {s2 : LS} (h : ST w0 w W F S AL cL l bound budget v0 v s) (k : ST w0 W W1 F S AL cL l bound budget v1 v2 s2) (hp : v1.vp = v0.vp) (hf : v1.vf = v0.vf) : ST w0 w W1 F S AL cL l bound budget v0 v2 s2 :=
 ⟨k.1, k.2.1, fun q hq a b c d => (k.2.2.1 q (Nat.lt_of_lt_of_le hq h.2.2.2) a b (by rw [hp]; exact c) (by rw [hf]; exact d)).trans (h.2.2.1 q hq a b c d), Nat.le_trans h.2.2.2 k.2.2.2⟩
theorem ST.cells {gp n cp : Nat} (h : ST w0 w W F S AL cL l bound budget v0 v s) (hv : v.vp = .slice (some ⟨gp, 0, none⟩) n cp) (i : Int) (h0 : 0 ≤ i) (h1 : i < n) :
  W.cell? ⟨gp, i.toNat * 2, none⟩ = some (.int .i8 (rd_T70 s.plan i).f0) ∧ W.cell? ⟨gp, i.toNat * 2 + 1, none⟩ = some (.int .i16 (rd_T70 s.plan i).f1) ∧ W.frozen? ⟨gp, i.toNat * 2, none⟩ = false ∧ W.frozen? ⟨gp, i.toNat * 2 + 1, none⟩ = false := by
 have h5 := h.1.2.2.2.2.1
 rw [hv] at h5
 obtain ⟨c, hcl, hM, hcc, hfr⟩ := Kd.R_elem h5 z70 i h0 h1
 rw [k70_openM hM] at hcc
 exact ⟨hcc 0 _ rfl, hcc 1 _ rfl, hfr 0, hfr 1⟩
theorem ST.cellf {gf n cf : Nat} (h : ST w0 w W F S AL cL l bound budget v0 v s) (hv : v.vf = .slice (some ⟨gf, 0, none⟩) n cf) (i : Int) (h0 : 0 ≤ i) (h1 : i < n) :
  W.cell? ⟨gf, i.toNat, none⟩ = some (.int .i64 (rd s.free i)) ∧ W.frozen? ⟨gf, i.toNat, none⟩ = false := by
 have h6 := h.1.2.2.2.2.2.1
 rw [hv] at h6
 exact Kd.R_celln (0 : Int) h6 i h0 h1
theorem ST.blocks {gp gf n m cp cf : Nat} (h : ST w0 w W F S AL cL l bound budget v0 v s) (hv : v.vp = .slice (some ⟨gp, 0, none⟩) n cp) (hw : v.vf = .slice (some ⟨gf, 0, none⟩) m cf) : F < W.heap.size ∧ S < W.heap.size ∧ gp < W.heap.size ∧ gf < W.heap.size ∧ F ≠ gp ∧ F ≠ gf := by
 have h5 := h.1.2.2.2.2.1
 have h6 := h.1.2.2.2.2.2.1
 rw [hv] at h5
 rw [hw] at h6
 obtain ⟨c5, t5⟩ := Kd.R_typed h5 gp rfl
 obtain ⟨c6, t6⟩ := Kd.R_typed h6 gf rfl
 exact ⟨blk_lt h.1.1, blk_lt h.1.2.1, blk_lt t5, blk_lt t6, blk_ne h.1.1 t5 (by decide), blk_ne h.1.1 t6 (by decide)⟩
end
/-- What the reference's search holds. -/
structure GS where
 tries : Int
 best : List S70
 least : Int
 found : Bool
def GFS (w0 W : World) (G : Nat) (AL : Option Addr) (cL : Nat) (l : List S66) (bound budget : Int) (vb : Value) (s : GS) : Prop :=
 W.heap[G]? = some (.cells #[.slice AL l.length cL, .int .i64 bound, .int .i64 budget, .int .i64 s.tries, vb, .int .i64 s.least, .bool s.found] 118 (0, 0)) ∧ w0.heap.size ≤ G ∧ Kd.R k70 70 W w0.heap.size (fun _ => True) vb s.best
def GStill (W W' : World) (G : Nat) : Prop := ∀ k, k < W.heap.size → k ≠ G → W'.heap[k]? = W.heap[k]?
def GT (w0 w W : World) (G : Nat) (AL : Option Addr) (cL : Nat) (l : List S66) (bound budget : Int) (vb : Value) (s : GS) : Prop :=
 GFS w0 W G AL cL l bound budget vb s ∧ Below w0.heap.size w0 W ∧ GStill w W G ∧ w.heap.size ≤ W.heap.size
def Keeps {α : Type} (d : Kd α) (w : World) (G : Nat) (A : Option Addr) (n : Nat) (xs : List α) : Prop := ∀ W, GStill w W G → d.C W A n xs
theorem keeps_of_R {α : Type} {d : Kd α} {e base n c G : Nat} {w : World} {A : Option Addr} {xs : List α} (h : d.R e w base (fun k => k ≠ G) (.slice A n c) xs) : Keeps d w G A xs.length xs :=
 fun W hW => (Kd.R_reads' (Kd.R_step h (fun k hk hlt => hW k hlt hk))).2.2
section
variable {w0 w W W1 : World} {G : Nat} {AL : Option Addr} {cL : Nat} {l : List S66} {bound budget : Int} {vb : Value} {s : GS}
theorem GT.below (h : GT w0 w W G AL cL l bound budget vb s) (hb : Below W.heap.size W W1) : GT w0 w W1 G AL cL l bound budget vb s :=
 ⟨⟨blk_below h.1.1 hb, h.1.2.1, Kd.R_below h.1.2.2 hb⟩, below_then h.2.1 h.2.1.size hb, fun k hk a => (hb.block k (Nat.lt_of_lt_of_le hk h.2.2.2)).trans (h.2.2.1 k hk a), Nat.le_trans h.2.2.2 hb.size⟩
theorem GT.field (h : GT w0 w W G AL cL l bound budget vb s) {j : Nat} {u : Value} {s2 : GS} (hb : s2.best = s.best)
  (hc : (#[.slice AL l.length cL, .int .i64 bound, .int .i64 budget, .int .i64 s.tries, vb, .int .i64 s.least, .bool s.found] : Array Value).setIfInBounds j u = #[.slice AL l.length cL, .int .i64 bound, .int .i64 budget, .int .i64 s2.tries, vb, .int .i64 s2.least, .bool s2.found]) :
  GT w0 w (W.setCell ⟨G, j, none⟩ u) G AL cL l bound budget vb s2 := by
 obtain ⟨⟨h1, h2, h3⟩, hB, hSt, hsz⟩ := h
 refine ⟨⟨blk_put h1 j u hc, h2, ?_⟩, below_set hB h2, fun k hk a => ?_, by simpa using hsz⟩
 ·rw [hb]; exact Kd.R_set h3 h1 (by decide) j u
 ·rw [Below.heap_setCell _ _ _ _ a]; exact hSt k hk a
theorem GT.best (h : GT w0 w W G AL cL l bound budget vb s) {v : Value} {xs : List S70} (hv : Kd.R k70 70 W w0.heap.size (fun _ => True) v xs) :
  GT w0 w (W.setCell ⟨G, 4, none⟩ v) G AL cL l bound budget v { s with best := xs } := by
 obtain ⟨⟨h1, h2, h3⟩, hB, hSt, hsz⟩ := h
 refine ⟨⟨blk_put h1 4 v rfl, h2, Kd.R_set hv h1 (by decide) 4 v⟩, below_set hB h2, fun k hk a => ?_, by simpa using hsz⟩
 rw [Below.heap_setCell _ _ _ _ a]; exact hSt k hk a
theorem GT.reset (h : GT w0 w W G AL cL l bound budget vb s) : GT w0 W W G AL cL l bound budget vb s := ⟨h.1, h.2.1, fun _ _ _ => rfl, Nat.le_refl _⟩
theorem GT.then {vb2 : Value} {s2 : GS} (h : GT w0 w W G AL cL l bound budget vb s) (k : GT w0 W W1 G AL cL l bound budget vb2 s2) : GT w0 w W1 G AL cL l bound budget vb2 s2 :=
 ⟨k.1, k.2.1, fun q hq a => (k.2.2.1 q (Nat.lt_of_lt_of_le hq h.2.2.2) a).trans (h.2.2.1 q hq a), Nat.le_trans h.2.2.2 k.2.2.2⟩
theorem Keeps.step {α : Type} {d : Kd α} {A : Option Addr} {n : Nat} {xs : List α} (h : Keeps d w G A n xs) (hs : GStill w W G) (hz : w.heap.size ≤ W.heap.size) : Keeps d W G A n xs :=
 fun W1 hW => h W1 (fun k hk a => (hW k (Nat.lt_of_lt_of_le hk hz) a).trans (hs k hk a))
end

end Go.Proofs.Ythocaohlimollaa.XB
