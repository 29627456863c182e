/- The heap's memory: the block of a heap, its row of things; what the calls on it leave as it was. -/
import Derived.Test.YtbmmlkifhhpjcaaProg
import Derived.Below
import Derived.Deep.Draws
import Derived.Deep.AppendLies
import Derived.Maps.AppendAt
import Derived.OwnWalk
import Derived.Laws.BytesArg
import Derived.Laws.MakeOwn
import Derived.Laws.OwnMore
import Derived.Deep.OwnRows
import Derived.Tactics
import Derived.Lib.ConvBytes
import Derived.Laws.Slices
import Derived.WalkKit
import Derived.KernelRfl
import Derived.RowKit3
import Derived.Deep.LoopGhost
import Derived.Deep.QuietTactic
import Derived.BigQuiet
import Derived.BigRegion
import Derived.WideLaws
import Derived.Deep.DeepCutAuto
import Derived.Deep.CutBlock
import Derived.Deep.RegionHeld3
import Derived.Laws.Rows
import Derived.Lib.AppendStr
import Derived.ArgAppend
import Derived.Laws.IdiomCopy
import Derived.OrdersHeld
import Derived.Laws.BitsLemmas
import Derived.RowKit
import Derived.Test.YtbmmlkifhhpjcaaWWords
import Derived.Test.YtbmmlkifhhpjcaaWLast
import Derived.Test.YtbmmlkifhhpjcaaWTab
import Derived.Test.YtbmmlkifhhpjcaaWFour
import Derived.Test.YtbmmlkifhhpjcaaWQPut
import Derived.Test.YtbmmlkifhhpjcaaWApart
import Derived.Test.YtbmmlkifhhpjcaaWArr
import Derived.Test.YtbmmlkifhhpjcaaWZeros
import Derived.Test.YtbmmlkifhhpjcaaWFoot
import Derived.Test.YtbmmlkifhhpjcaaWKept
import Derived.Test.YtbmmlkifhhpjcaaWShare
import Derived.Test.YtbmmlkifhhpjcaaWN
import Derived.Test.YtbmmlkifhhpjcaaWFootNe
import Derived.Test.YtbmmlkifhhpjcaaWAt
import Derived.Test.YtbmmlkifhhpjcaaWEqStruct
import Derived.Test.YtbmmlkifhhpjcaaWRepsOne
import Derived.Test.YtbmmlkifhhpjcaaWInv
import Derived.Test.YtbmmlkifhhpjcaaWInvWords
import Derived.Test.YtbmmlkifhhpjcaaWGuard
import Derived.Test.YtbmmlkifhhpjcaaWNEv
import Derived.Test.YtbmmlkifhhpjcaaWMore
import Derived.Test.YtbmmlkifhhpjcaaO
namespace Go.Proofs.Ytbmmlkifhhpjcaa.X
open Go.RowKit Go.Proofs.YtbmmlkifhhpjcaaW.PrintWords Go.Proofs.YtbmmlkifhhpjcaaW.PrintLast Go.Proofs.YtbmmlkifhhpjcaaW.PrintMore
attribute [local go_sem] max2_int min2_int max_two min_two max_three min_three max_four min_four
set_option linter.unusedVariables false
set_option linter.unusedSimpArgs false

section
variable {P : Program} {md : Region.Mode} {ops : Array Oper} {Q : Exit → Act → World → Prop} {S : World → Prop} {ds : List Nat} {T : Bool × List (List Nat × List Nat)}
theorem pY (i : Nat) (N : Tmp) (l' : Array Bool) (hT : rtab md ops = T) {oi : Oper} {v : Value} {fuel : Nat} {l : Array Bool} {a a' : Act} {w : World} (h : wpAnyLast P md ops Q S ds fuel l' a' w)
    (hi : ops[i]? = some oi := by rfl) (hN : oi.dst = some N := by rfl) (hc : anyT T l.toList l'.toList i = true := by kernel_rfl) (hQ : ∀ c a w, Q (.panic c) (a.put oi.dst v) w → Q (.panic c) a w := by exact fun _ _ _ h => h)
    (hw : Region.wanted oi (yielded ops a.tmps) = true := by rfl) (hv : ∀ w, (execOp a.eval oi).run P w = .ok (.value v) w := by intro w'; go_simp; with_reducible rfl)
    (ha : a.put (some N) v = a' := by simp only [Act.put, List.setIfInBounds_toArray, List.set_cons_zero, List.set_cons_succ, i64_w, i32_w]; rfl) : wpAnyLast P md ops Q S ds (fuel + 1) l a w :=
  pure_ l' hi hN (any_of hT hc) hQ (Or.inl ⟨hw, hv⟩) ha h
end
section
variable {P : Program} {md : Region.Mode} {ops : Array Oper} {o : Oper} {a : Act} {Q : Exit → Act → World → Prop}
theorem x_store_step {E : Prop} {Kc : Act → World → Prop} {W w1 : World} (hw : Region.wanted o (yielded ops a.tmps) = true) (hN : o.dst = none) (hrun : (execOp a.eval o).run P W = .ok .skip w1) (h : Kc a w1) : if Region.wanted o (yielded ops a.tmps) = true then Oper.wp P o a W Kc Q else E := by
  rw [if_pos hw]
  unfold Oper.wp
  rw [hrun]
  show Kc (a.put o.dst undef) w1
  rw [hN]
  exact h
end
theorem two_new (W : World) (t : TypeId) (a0 a1 b0 b1 : Value) {g : Nat} {o : Obj} (hg : W.heap[g]? = some o) :
    ((W.alloc (.cells #[a0, a1] t)).alloc (.cells #[b0, b1] t)).drew.cell? ⟨W.heap.size, 0, none⟩ = some a0 ∧ ((W.alloc (.cells #[a0, a1] t)).alloc (.cells #[b0, b1] t)).drew.cell? ⟨W.heap.size, 1, none⟩ = some a1 ∧
    ((W.alloc (.cells #[a0, a1] t)).alloc (.cells #[b0, b1] t)).drew.cell? ⟨W.heap.size + 1, 0, none⟩ = some b0 ∧ ((W.alloc (.cells #[a0, a1] t)).alloc (.cells #[b0, b1] t)).drew.cell? ⟨W.heap.size + 1, 1, none⟩ = some b1 ∧
    ((W.alloc (.cells #[a0, a1] t)).alloc (.cells #[b0, b1] t)).drew.heap[g]? = some o ∧ Below W.heap.size W ((W.alloc (.cells #[a0, a1] t)).alloc (.cells #[b0, b1] t)).drew := by
  have h1 : ((W.alloc (.cells #[a0, a1] t)).alloc (.cells #[b0, b1] t)).drew.heap[W.heap.size]? = some (.cells #[a0, a1] t (0, 0)) := blk_alloc (blk_new W _) _
  have h2 : ((W.alloc (.cells #[a0, a1] t)).alloc (.cells #[b0, b1] t)).drew.heap[W.heap.size + 1]? = some (.cells #[b0, b1] t (0, 0)) := by
    have := blk_new (W.alloc (.cells #[a0, a1] t)) (.cells #[b0, b1] t)
    rw [show (W.alloc (.cells #[a0, a1] t)).heap.size = W.heap.size + 1 by simp] at this
    exact this
  exact ⟨(blk_cell h1 0).trans rfl, (blk_cell h1 1).trans rfl, (blk_cell h2 0).trans rfl, (blk_cell h2 1).trans rfl, blk_alloc (blk_alloc hg _) _, below_drew (below_alloc (below_alloc (Below.refl _ _) _) _)⟩
theorem quiet_call {P : Program} {ops : Array Oper} {o : Oper} {a : Act} {K : Act → Prop} {wc : World} (f : FuncId) (args : Array Value) (v : Value) (hw : Region.wanted o (yielded ops a.tmps) = true) (hrun : ∀ w, (execOp a.eval o).run P w = .ok (.enter f args) w)
    (hc : ∀ w, Calls P f args w fun e w' => e = .returned v ∧ Drawn0 w w') (h : K (a.put o.dst v)) : if Region.wanted o (yielded ops a.tmps) then o.quiet P a (fun w' => ∃ n, w' = wc.drewN n) K else K (a.put o.dst undef) := by
  rw [if_pos hw]
  refine ⟨v, fun w hC => ?_, h⟩
  obtain ⟨n, rfl⟩ := hC
  unfold Oper.quietAt
  rw [hrun]
  refine ⟨rfl, (hc _).mono fun e w' hh => ?_⟩
  obtain ⟨he, m, hm⟩ := hh
  exact ⟨he, n + m, by rw [hm, World.drewN_drewN]⟩
section
variable {β : Type} {kd : Kd β} {tO tH g base : Nat} {less : Value} {W W1 W2 : World} {row row1 row2 : Option Nat} {L : List β} {came : Int}
/-- the heap at block g: its row of things (block 'row'), what orders them, how many came -/
def HpS (kd : Kd β) (tO tH : Nat) (less : Value) (W : World) (g base : Nat) (row : Option Nat) (L : List β) (came : Int) : Prop :=
  ∃ v, v.ownBlock = row ∧ W.heap[g]? = some (.cells #[v, less, .int .i64 came] tH (0, 0)) ∧ kd.R tO W base (fun k => k ≠ g) v L ∧ base ≤ g
/-- what a call on the heap at block g leaves -/
structure HpTo (W W1 : World) (g base : Nat) (row row1 : Option Nat) : Prop where
  grow : row1 = row ∨ ∃ b, row1 = some b ∧ W.heap.size ≤ b
  below : Below base W W1
  keep : KeepBut W W1 g row
theorem HpTo.refl (W : World) (g base : Nat) (row : Option Nat) : HpTo W W g base row row := ⟨.inl rfl, Below.refl _ _, KeepBut.refl _ _ _⟩
theorem HpTo.trans (h : HpTo W W1 g base row row1) (k : HpTo W1 W2 g base row1 row2) : HpTo W W2 g base row row2 := by
  refine ⟨?_, h.below.trans k.below, h.keep.trans k.keep h.grow⟩
  rcases k.grow with e | ⟨b, e, hb⟩
  · rw [e]; exact h.grow
  · exact .inr ⟨b, e, Nat.le_trans h.keep.1 hb⟩
theorem HpTo.then_below (h : HpTo W W1 g base row row1) (hb : Below W1.heap.size W1 W2) (hl : base ≤ W1.heap.size) : HpTo W W2 g base row row1 :=
  ⟨h.grow, h.below.trans (hb.mono hl), h.keep.trans (KeepBut.of_below hb g row1) h.grow⟩
theorem HpTo.then_set (h : HpTo W W1 g base row row1) (hg : base ≤ g) (j : Nat) (u : Value) : HpTo W (W1.setCell ⟨g, j, none⟩ u) g base row row1 :=
  ⟨h.grow, h.below.setCell (p := ⟨g, j, none⟩) hg u, h.keep.set_ j u⟩
theorem HpTo.then_grown (h : HpTo W W1 g base row row1) (hl : base ≤ W1.heap.size) (hr : ∀ k, row1 = some k → base ≤ k) (hg : W1.grownBy W2 row1) (hat : row2 = row1 ∨ ∃ b, row2 = some b ∧ W1.heap.size ≤ b) : HpTo W W2 g base row row2 :=
  h.trans ⟨hat, (Below.refl base W1).grown hg hl hr, KeepBut.of_grown hg g⟩
theorem HpTo.then_above (h : HpTo W W1 g base row row1) (hb : Below W.heap.size W1 W2) (hl : base ≤ W.heap.size) : HpTo W W2 g base row row1 :=
  ⟨h.grow, h.below.trans (hb.mono hl), ⟨Nat.le_trans h.keep.1 hb.size, fun i hi h1 h2 => (hb.block i hi).trans (h.keep.2 i hi h1 h2)⟩⟩
theorem HpS.lt (h : HpS kd tO tH less W g base row L came) : g < W.heap.size ∧ base ≤ g := by
  obtain ⟨v, _, hb, _, hg⟩ := h
  exact ⟨blk_lt hb, hg⟩
theorem HpS.size (h : HpS kd tO tH less W g base row L came) : base ≤ W.heap.size := by
  have := h.lt
  omega
theorem HpS.row_ (h : HpS kd tO tH less W g base row L came) : ∀ k, row = some k → base ≤ k ∧ k < W.heap.size ∧ k ≠ g := by
  obtain ⟨v, hv, hb, hR, hg⟩ := h
  intro k hk
  rw [← hv] at hk
  exact ⟨Kd.R_base hR k hk, Kd.R_lt hR k hk, hR.1 k hk⟩
theorem HpS.below (h : HpS kd tO tH less W g base row L came) (hb : Below W.heap.size W W1) : HpS kd tO tH less W1 g base row L came := by
  obtain ⟨v, hv, h1, h2, h3⟩ := h
  exact ⟨v, hv, blk_below h1 hb, Kd.R_below h2 hb, h3⟩
theorem HpS.keep (hE : kd.E = []) (h : HpS kd tO tH less W g base row L came) {g2 : Nat} (k : KeepBut W W1 g2 row2) (h1 : g ≠ g2) (h2 : some g ≠ row2) (h3 : ∀ b, row = some b → b ≠ g2 ∧ some b ≠ row2) : HpS kd tO tH less W1 g base row L came := by
  obtain ⟨v, hv, hb, hR, hg⟩ := h
  refine ⟨v, hv, (k.2 g (blk_lt hb) h1 h2).trans hb, ?_, hg⟩
  have hT := Kd.R_tight2 hE hR
  refine Kd.R_mono (Kd.R_step hT fun b hk hlt => ?_) (fun b hk => hk.2)
  have := h3 b (hv ▸ hk.1.symm)
  exact k.2 b hlt this.1 this.2
theorem HpS.grown (hE : kd.E = []) (h : HpS kd tO tH less W g base row L came) (hg : W.grownBy W1 row2) (h2 : some g ≠ row2) (h3 : ∀ b, row = some b → some b ≠ row2) : HpS kd tO tH less W1 g base row L came := by
  obtain ⟨v, hv, hb, hR, hg'⟩ := h
  refine ⟨v, hv, blk_grown hb hg h2, ?_, hg'⟩
  have hT := Kd.R_tight2 hE hR
  refine Kd.R_mono (Kd.R_step hT fun b hk hlt => ?_) (fun b hk => hk.2)
  exact hg.block b hlt (h3 b (hv ▸ hk.1.symm))
theorem rowR_keep {okr : Nat → Prop} {e : Nat} {b2 : Nat} {v : Value} (hE : kd.E = []) (h : kd.R e W b2 okr v L) {g2 : Nat} (k : KeepBut W W1 g2 row2) (h3 : ∀ b, v.ownBlock = some b → b ≠ g2 ∧ some b ≠ row2) : kd.R e W1 b2 okr v L := by
  have hT := Kd.R_tight2 hE h
  refine Kd.R_mono (Kd.R_step hT fun b hk hlt => ?_) (fun b hk => hk.2)
  have := h3 b hk.1.symm
  exact k.2 b hlt this.1 this.2
end
theorem keepS {wr w9 : World} {g : Nat} {row : Option Nat} {a b c : Value} {t : TypeId} (hb : wr.heap[g]? = some (.cells #[a, b, c] t (0, 0))) (hg2 : wr.drew.grownBy w9 row) (hne : some g ≠ row) : w9.cell? ⟨g, 0, none⟩ = some a ∧ w9.cell? ⟨g, 2, none⟩ = some c ∧ w9.frozen? ⟨g, 0, none⟩ = false := by
  have := blk_grown (blk_drew hb) hg2 hne
  exact ⟨(blk_cell this 0).trans rfl, (blk_cell this 2).trans rfl, blk_frozen this 0⟩
theorem keepA {wr : World} {g : Nat} {a b c : Value} {t : TypeId} (hb : wr.heap[g]? = some (.cells #[a, b, c] t (0, 0))) (o : Obj) : (wr.alloc o).drew.cell? ⟨g, 0, none⟩ = some a ∧ (wr.alloc o).drew.cell? ⟨g, 2, none⟩ = some c ∧ (wr.alloc o).drew.frozen? ⟨g, 0, none⟩ = false := by
  have := blk_drew (blk_alloc hb o)
  exact ⟨(blk_cell this 0).trans rfl, (blk_cell this 2).trans rfl, blk_frozen this 0⟩
theorem C_keepB {α : Type} {d : Kd α} {A : Option Addr} {n : Nat} {xs : List α} {w : World} {g : Nat} {row : Option Nat} (hd : ∀ {W W' : World} {x : α} {cs : List Value}, d.K W x cs → d.K W' x cs) (h : d.C w A n xs) (hf : ∀ ad, A = some ad → 0 < n → ad.block ≠ g ∧ some ad.block ≠ row) : ∀ W', KeepBut w W' g row → d.C W' A n xs := by
  intro W' hk
  refine ⟨h.1, h.2.1, fun hn => ?_⟩
  obtain ⟨ad, he, hc⟩ := h.2.2 hn
  refine ⟨ad, he, fun j p hj => ?_⟩
  obtain ⟨cs, h1, h2, h3⟩ := hc j p hj
  refine ⟨cs, h1, hd h2, fun i u hu => ?_⟩
  have hb := hf ad he hn
  have hx := h3 i u hu
  have hl := World.block_lt_of_cell? _ _ hx
  rw [add_block] at hl
  have hq := hk.2 ad.block hl hb.1 hb.2
  rw [← hx]
  simp only [World.cell?, add_block, hq]
theorem C_ltB {α : Type} {d : Kd α} {A : Option Addr} {n : Nat} {xs : List α} {w : World} (h : d.C w A n xs) (hs : 0 < d.sz) {b : Nat} (hb : w.heap.size ≤ b) {row : Option Nat} (hr : ∀ k, row = some k → w.heap.size ≤ k) : ∀ ad, A = some ad → 0 < n → ad.block ≠ b ∧ some ad.block ≠ row := by
  intro ad he hn
  subst he
  have := Kd.C_lt h hn hs
  exact ⟨by omega, fun e => by have := hr _ e.symm; omega⟩
end Go.Proofs.Ytbmmlkifhhpjcaa.X
