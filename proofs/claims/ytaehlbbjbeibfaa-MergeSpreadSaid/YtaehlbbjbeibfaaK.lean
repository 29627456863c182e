/-
 What a law's argument is, of whatever type, as it is read before the call: its rows as the walks ask for them, its numbers' bounds, its bulk and its weights, for the seat Ytaehlbbjbeibfaa.
-/
import Derived.Test.YtaehlbbjbeibfaaRows
import Derived.Test.YtaehlbbjbeibfaaX0
import Derived.Deep.Slices
import Derived.SliceStrings
import Derived.DataReads
set_option linter.unusedVariables false
set_option linter.unusedSimpArgs false
namespace Go.Proofs.Ytaehlbbjbeibfaa.B
open Go.RowKit Go.ChangeShapes Go.WideShapes Go.Deep Go.Proofs.Ytaehlbbjbeibfaa.X Go.Proofs.YtaehlbbjbeibfaaW.PrintWords Go.Proofs.YtaehlbbjbeibfaaW.PrintLast

/-- a type's reading, opened: what it is (d), that its numbers are whole (g), how great it is (m: its bulk; T: each part's weight) -/
structure Opn {α : Type} (P : Program) (t : TypeId) (d : Kd α) (g : α → Prop) (m : α → Nat) (T : Nat → α → Prop) : Prop where
 sz : P.cellsOf t = d.sz
 down : ∀ {H : Type} {enc : TypeId × Value → H} {w : World} {base : Nat} {spare : Nat → Bool} {held : Bool} {fuel : Nat} {cs : List Value} {x : DataW H × List MemPlace},
  DataW.trod enc P w base spare held fuel t cs = some x → ∃ a, d.K w a cs ∧ g a ∧ m a ≤ Rows.uptoBulk x.1 ∧ ∀ B, (∀ n ∈ x.1.weights P t, n ≤ B) → T B a
variable {P : Program}
theorem Opn.bool {t : TypeId} (ht : P.underlying t = some .bool) (hc : P.cellsOf t = 1) : Opn P t Kd.bool (fun _ => True) (fun _ => 1) (fun _ _ => True) where
 sz := hc
 down := by
  intro H enc w base spare held fuel cs x h
  obtain ⟨b, rfl, rfl⟩ := DataW.trod_bool ht h
  exact ⟨b, rfl, trivial, Nat.le_of_eq rfl, fun _ _ => trivial⟩
theorem Opn.int {t : TypeId} {k : IntKind} (ht : P.underlying t = some (.int k)) (hc : P.cellsOf t = 1) : Opn P t (Kd.int k) (fun n => (Lit.int k n).wf = true) (fun _ => 1) (fun _ _ => True) where
 sz := hc
 down := by
  intro H enc w base spare held fuel cs x h
  obtain ⟨n, rfl, rfl, hw⟩ := DataW.trod_int ht h
  exact ⟨n, rfl, hw, Nat.le_of_eq rfl, fun _ _ => trivial⟩
theorem Opn.string {t : TypeId} (ht : P.underlying t = some .string) (hc : P.cellsOf t = 1) : Opn P t Kd.string (fun _ => True) (fun s => s.size + 1) (fun B s => s.size ≤ B) where
 sz := hc
 down := by
  intro H enc w base spare held fuel cs x h
  obtain ⟨s, rfl, rfl, hw⟩ := DataW.trod_string ht h
  have e : s.data.toList.length = s.size := data_length s
  exact ⟨s, rfl, trivial, by simp only [Rows.uptoBulk, e]; exact Nat.le_refl _, fun B hB => by have := hB s.data.toList.length (by simp [DataW.weights]); omega⟩
theorem sum_le {α H : Type} (m : α → Nat) (f : Nat → α) (D : Nat → DataW H) : ∀ (l : List Nat), (∀ i ∈ l, m (f i) ≤ Rows.uptoBulk (D i)) → ((l.map f).map m).sum ≤ Rows.uptoBulkAll (l.map D)
 | [], _ => Nat.le_refl _
 | i :: l, h => by
  have h1 := h i (by simp)
  have h2 := sum_le m f D l (fun j hj => h j (by simp [hj]))
  simp only [List.map_cons, List.sum_cons, Rows.uptoBulkAll]
  omega
theorem weightsAll_mem {H : Type} {e : TypeId} {d : DataW H} : ∀ {l : List (DataW H)}, d ∈ l → ∀ n ∈ d.weights P e, n ∈ DataW.weightsAll P e l
 | y :: l, hd, n, hn => by
  simp only [DataW.weightsAll, List.mem_append]
  rcases List.mem_cons.1 hd with rfl | hd
  ·exact .inl hn
  ·exact .inr (weightsAll_mem hd n hn)
theorem Opn.slice {α : Type} {t e : TypeId} {d : Kd α} {g : α → Prop} {m : α → Nat} {T : Nat → α → Prop} (E b : Nat) (hbe : P.bytesOf e = b) (ht : P.underlying t = some (.slice e)) (hc : P.cellsOf t = 1) (he : Opn P e d g m T) (z : α) :
  Opn P t (Kd.slice E d) (fun xs => xs.length ≤ maxLen ∧ ∀ x ∈ xs, g x) (fun xs => (xs.map m).sum + 1) (fun B xs => xs.length * b ≤ B ∧ ∀ x ∈ xs, T B x) where
 sz := hc
 down := by
  intro H enc w base spare held fuel cs x h
  rcases open_slice ht h with ⟨rfl, rfl⟩ | ⟨a, len, cap, mm, n, D, Pl, rfl, hb, hl, hm, hmm, rfl, hx⟩
  ·refine ⟨[], ⟨none, 0, rfl, Nat.le_refl _, rfl, Nat.zero_le _, fun h => absurd h (Nat.lt_irrefl 0)⟩, ⟨Nat.zero_le _, by simp⟩, Nat.le_refl _, fun B _ => ⟨by simp, by simp⟩⟩
  ·have hlm : len ≤ mm := by rw [hmm]; split <;> omega
   have : Inhabited α := ⟨z⟩
   obtain ⟨f, hf⟩ := choose_lt (α := α) (n := mm) (p := fun i q => ∃ cs', w.cells? base (a.add (i * P.cellsOf e)) (P.cellsOf e) = some cs' ∧ d.K w q cs' ∧ g q ∧ m q ≤ Rows.uptoBulk (D i) ∧ ∀ B, (∀ n ∈ (D i).weights P e, n ≤ B) → T B q) (fun i hi => by
    obtain ⟨cs', h1, h2⟩ := hx i hi
    obtain ⟨q, hq⟩ := he.down h2
    exact ⟨q, cs', h1, hq⟩)
   have hget : ∀ i q, ((List.range len).map f)[i]? = some q → i < len ∧ q = f i := fun i q hq => by
    rw [List.getElem?_map, Option.map_eq_some_iff] at hq
    obtain ⟨j, hj, rfl⟩ := hq
    have h1 := List.getElem?_eq_some_iff.1 hj
    obtain ⟨h1, h2⟩ := h1
    simp at h1 h2
    subst h2
    exact ⟨h1, rfl⟩
   have hmem : ∀ q ∈ (List.range len).map f, ∃ i, i < len ∧ q = f i := fun q hq => by
    obtain ⟨i, hi, rfl⟩ := List.mem_map.1 hq
    exact ⟨i, by simpa using hi, rfl⟩
   have hlen : ((List.range len).map f).length = len := by simp
   have hmx : maxLen ≤ 9223372036854775807 := by decide
   refine ⟨(List.range len).map f, ⟨some a, cap, by rw [hlen], by rw [hlen]; exact hl, rfl, by rw [hlen]; omega, fun h0 => ⟨a, rfl, fun j p hp => ?_⟩⟩, ⟨by rw [hlen]; omega, fun q hq => ?_⟩, ?_, fun B hB => ⟨?_, fun q hq => ?_⟩⟩
   ·obtain ⟨hj, rfl⟩ := hget j p hp
    obtain ⟨cs', h1, h2, _⟩ := hf j (by omega)
    obtain ⟨_, h3, h4⟩ := World.cells?_some h1
    refine ⟨cs', h3.trans he.sz, h2, fun i u hu => ?_⟩
    have hi : i < P.cellsOf e := by rw [← h3]; exact (List.getElem?_eq_some_iff.1 hu).1
    have := h4 i hi
    rw [Go.Deep.add_add] at this
    rw [← he.sz, this, hu]
   ·obtain ⟨i, hi, rfl⟩ := hmem q hq
    obtain ⟨_, _, _, h3, _⟩ := hf i (by omega)
    exact h3
   ·have := sum_le m f D (List.range len) (fun i hi => by
     obtain ⟨_, _, _, _, h4, _⟩ := hf i (by simp at hi; omega)
     exact h4)
    simp only [Rows.uptoBulk]
    omega
   ·rw [← hbe]
    have := hB ((((List.range len).map D).length + ((List.range (mm - len)).map fun j => D (len + j)).length) * P.bytesOf e) (by simp [DataW.weights, ht])
    refine Nat.le_trans (Nat.mul_le_mul_right _ ?_) this
    simp
   ·obtain ⟨i, hi, rfl⟩ := hmem q hq
    obtain ⟨_, _, _, _, _, h5⟩ := hf i (by omega)
    refine h5 B fun n hn => hB n ?_
    simp only [DataW.weights, ht, List.mem_cons, List.mem_append]
    refine .inr (.inl (weightsAll_mem (List.mem_map.2 ⟨i, by simpa using hi, rfl⟩) n hn))
theorem weightsEach_mem {H : Type} {e : TypeId} {d : DataW H} {n : Nat} (hn : n ∈ d.weights P e) : ∀ (ts : List TypeId) (ds : List (DataW H)) (j : Nat), ts[j]? = some e → ds[j]? = some d → n ∈ DataW.weightsEach P ts ds
 | [], _, j, ht, _ => by simp at ht
 | _ :: _, [], j, _, hd => by simp at hd
 | t :: ts, x :: ds, 0, ht, hd => by
  simp only [List.getElem?_cons_zero, Option.some.injEq] at ht hd
  subst ht
  subst hd
  simp only [DataW.weightsEach, List.mem_append]
  exact .inl hn
 | t :: ts, x :: ds, j + 1, ht, hd => by
  simp only [List.getElem?_cons_succ] at ht hd
  simp only [DataW.weightsEach, List.mem_append]
  exact .inr (weightsEach_mem hn ts ds j ht hd)
theorem Opn.struct2 {α β γ : Type} {t : TypeId} {f0 f1 : Field} {d0 : Kd α} {d1 : Kd β} {g0 : α → Prop} {g1 : β → Prop} {m0 : α → Nat} {m1 : β → Nat} {T0 : Nat → α → Prop} {T1 : Nat → β → Prop}
  (ht : P.underlying t = some (.struct #[f0, f1])) (hc : P.cellsOf t = d0.sz + d1.sz) (h0 : Opn P f0.type d0 g0 m0 T0) (h1 : Opn P f1.type d1 g1 m1 T1) (o0 : f0.offset = 0) (o1 : f1.offset = d0.sz) (f : γ → α × β) (mk : α → β → γ) (hmk : ∀ a b, f (mk a b) = (a, b)) :
  Opn P t (Kd.iso (Kd.pair d0 d1) f) (fun x => g0 (f x).1 ∧ g1 (f x).2) (fun x => m0 (f x).1 + m1 (f x).2) (fun B x => T0 B (f x).1 ∧ T1 B (f x).2) where
 sz := hc
 down := by
  intro H enc w base spare held fuel cs x h
  obtain ⟨xs, n, rfl, rfl, hl, hxl, hx⟩ := DataW.trod_struct ht h
  match xs, hxl with
  | [y0, y1], _ =>
   have e0 := hx 0 f0 rfl
   have e1 := hx 1 f1 rfl
   rw [o0, List.drop_zero, h0.sz] at e0
   rw [o1, h1.sz, List.take_of_length_le (by rw [List.length_drop]; omega)] at e1
   obtain ⟨a, ka, ga, ma, Ta⟩ := h0.down e0
   obtain ⟨b, kb, gb, mb, Tb⟩ := h1.down e1
   refine ⟨mk a b, ?_, ?_, ?_, fun B hB => ?_⟩
   ·show (Kd.pair d0 d1).K w (f (mk a b)) cs
    rw [hmk]
    exact ⟨_, _, (List.take_append_drop d0.sz cs).symm, ka, kb⟩
   ·rw [hmk]
    exact ⟨ga, gb⟩
   ·rw [hmk]
    simp only [List.map_cons, List.map_nil, Rows.uptoBulk, Rows.uptoBulkAll]
    omega
   ·rw [hmk]
    simp only [DataW.weights, ht] at hB
    exact ⟨Ta B fun n hn => hB n (weightsEach_mem hn _ _ 0 rfl rfl), Tb B fun n hn => hB n (weightsEach_mem hn _ _ 1 rfl rfl)⟩
theorem Opn.struct3 {α β δ γ : Type} {t : TypeId} {f0 f1 f2 : Field} {d0 : Kd α} {d1 : Kd β} {d2 : Kd δ} {g0 : α → Prop} {g1 : β → Prop} {g2 : δ → Prop} {m0 : α → Nat} {m1 : β → Nat} {m2 : δ → Nat} {T0 : Nat → α → Prop} {T1 : Nat → β → Prop} {T2 : Nat → δ → Prop}
  (ht : P.underlying t = some (.struct #[f0, f1, f2])) (hc : P.cellsOf t = d0.sz + (d1.sz + d2.sz)) (h0 : Opn P f0.type d0 g0 m0 T0) (h1 : Opn P f1.type d1 g1 m1 T1) (h2 : Opn P f2.type d2 g2 m2 T2) (o0 : f0.offset = 0) (o1 : f1.offset = d0.sz) (o2 : f2.offset = d0.sz + d1.sz) (f : γ → α × β × δ) (mk : α → β → δ → γ) (hmk : ∀ a b c, f (mk a b c) = (a, b, c)) :
  Opn P t (Kd.iso (Kd.pair d0 (Kd.pair d1 d2)) f) (fun x => g0 (f x).1 ∧ g1 (f x).2.1 ∧ g2 (f x).2.2) (fun x => m0 (f x).1 + m1 (f x).2.1 + m2 (f x).2.2) (fun B x => T0 B (f x).1 ∧ T1 B (f x).2.1 ∧ T2 B (f x).2.2) where
 sz := hc
 down := by
  intro H enc w base spare held fuel cs x h
  obtain ⟨xs, n, rfl, rfl, hl, hxl, hx⟩ := DataW.trod_struct ht h
  match xs, hxl with
  | [y0, y1, y2], _ =>
   have e0 := hx 0 f0 rfl
   have e1 := hx 1 f1 rfl
   have e2 := hx 2 f2 rfl
   rw [o0, List.drop_zero, h0.sz] at e0
   rw [o1, h1.sz] at e1
   rw [o2, h2.sz, List.take_of_length_le (by rw [List.length_drop]; omega)] at e2
   obtain ⟨a, ka, ga, ma, Ta⟩ := h0.down e0
   obtain ⟨b, kb, gb, mb, Tb⟩ := h1.down e1
   obtain ⟨c, kc, gc, mc, Tc⟩ := h2.down e2
   refine ⟨mk a b c, ?_, ?_, ?_, fun B hB => ?_⟩
   ·show (Kd.pair d0 (Kd.pair d1 d2)).K w (f (mk a b c)) cs
    rw [hmk]
    refine ⟨_, _, (List.take_append_drop d0.sz cs).symm, ka, _, _, (List.take_append_drop d1.sz (cs.drop d0.sz)).symm, kb, ?_⟩
    rw [List.drop_drop]
    exact kc
   ·rw [hmk]
    exact ⟨ga, gb, gc⟩
   ·rw [hmk]
    simp only [List.map_cons, List.map_nil, Rows.uptoBulk, Rows.uptoBulkAll]
    omega
   ·rw [hmk]
    simp only [DataW.weights, ht] at hB
    exact ⟨Ta B fun n hn => hB n (weightsEach_mem hn _ _ 0 rfl rfl), Tb B fun n hn => hB n (weightsEach_mem hn _ _ 1 rfl rfl), Tc B fun n hn => hB n (weightsEach_mem hn _ _ 2 rfl rfl)⟩
theorem Opn.struct5 {α0 α1 α2 α3 α4 γ : Type} {t : TypeId} {f0 f1 f2 f3 f4 : Field} {d0 : Kd α0} {d1 : Kd α1} {d2 : Kd α2} {d3 : Kd α3} {d4 : Kd α4} {g0 : α0 → Prop} {g1 : α1 → Prop} {g2 : α2 → Prop} {g3 : α3 → Prop} {g4 : α4 → Prop} {m0 : α0 → Nat} {m1 : α1 → Nat} {m2 : α2 → Nat} {m3 : α3 → Nat} {m4 : α4 → Nat} {T0 : Nat → α0 → Prop} {T1 : Nat → α1 → Prop} {T2 : Nat → α2 → Prop} {T3 : Nat → α3 → Prop} {T4 : Nat → α4 → Prop}
  (ht : P.underlying t = some (.struct #[f0, f1, f2, f3, f4])) (hc : P.cellsOf t = d0.sz + (d1.sz + (d2.sz + (d3.sz + d4.sz)))) (h0 : Opn P f0.type d0 g0 m0 T0) (h1 : Opn P f1.type d1 g1 m1 T1) (h2 : Opn P f2.type d2 g2 m2 T2) (h3 : Opn P f3.type d3 g3 m3 T3) (h4 : Opn P f4.type d4 g4 m4 T4) (o0 : f0.offset = 0) (o1 : f1.offset = d0.sz) (o2 : f2.offset = d0.sz + d1.sz) (o3 : f3.offset = d0.sz + d1.sz + d2.sz) (o4 : f4.offset = d0.sz + d1.sz + d2.sz + d3.sz) (f : γ → α0 × α1 × α2 × α3 × α4) (mk : α0 → α1 → α2 → α3 → α4 → γ) (hmk : ∀ a b c d e, f (mk a b c d e) = (a, b, c, d, e)) :
  Opn P t (Kd.iso (Kd.pair d0 (Kd.pair d1 (Kd.pair d2 (Kd.pair d3 d4)))) f) (fun x => g0 (f x).1 ∧ g1 (f x).2.1 ∧ g2 (f x).2.2.1 ∧ g3 (f x).2.2.2.1 ∧ g4 (f x).2.2.2.2) (fun x => m0 (f x).1 + m1 (f x).2.1 + m2 (f x).2.2.1 + m3 (f x).2.2.2.1 + m4 (f x).2.2.2.2) (fun B x => T0 B (f x).1 ∧ T1 B (f x).2.1 ∧ T2 B (f x).2.2.1 ∧ T3 B (f x).2.2.2.1 ∧ T4 B (f x).2.2.2.2) where
 sz := hc
 down := by
  intro H enc w base spare held fuel cs x h
  obtain ⟨xs, n, rfl, rfl, hl, hxl, hx⟩ := DataW.trod_struct ht h
  match xs, hxl with
  | [y0, y1, y2, y3, y4], _ =>
   have e0 := hx 0 f0 rfl
   have e1 := hx 1 f1 rfl
   have e2 := hx 2 f2 rfl
   have e3 := hx 3 f3 rfl
   have e4 := hx 4 f4 rfl
   rw [o0, List.drop_zero, h0.sz] at e0
   rw [o1, h1.sz] at e1
   rw [o2, h2.sz] at e2
   rw [o3, h3.sz] at e3
   rw [o4, h4.sz, List.take_of_length_le (by rw [List.length_drop]; omega)] at e4
   obtain ⟨a, ka, ga_, ma_, Ta_⟩ := h0.down e0
   obtain ⟨b, kb, gb_, mb_, Tb_⟩ := h1.down e1
   obtain ⟨c, kc, gc_, mc_, Tc_⟩ := h2.down e2
   obtain ⟨d, kd, gd_, md_, Td_⟩ := h3.down e3
   obtain ⟨e, ke, ge_, me_, Te_⟩ := h4.down e4
   refine ⟨mk a b c d e, ?_, ?_, ?_, fun B hB => ?_⟩
   ·show (Kd.pair d0 (Kd.pair d1 (Kd.pair d2 (Kd.pair d3 d4)))).K w (f (mk a b c d e)) cs
    rw [hmk]
    refine ⟨_, _, (List.take_append_drop d0.sz cs).symm, ka, _, _, (List.take_append_drop d1.sz (cs.drop d0.sz)).symm, kb, _, _, (List.take_append_drop d2.sz _).symm, ?_, _, _, (List.take_append_drop d3.sz _).symm, ?_, ?_⟩
    ·rw [List.drop_drop]
     exact kc
    ·rw [List.drop_drop, List.drop_drop, show d0.sz + (d1.sz + d2.sz) = d0.sz + d1.sz + d2.sz by omega]
     exact kd
    ·rw [List.drop_drop, List.drop_drop, List.drop_drop, show d0.sz + (d1.sz + (d2.sz + d3.sz)) = d0.sz + d1.sz + d2.sz + d3.sz by omega]
     exact ke
   ·rw [hmk]
    exact ⟨ga_, gb_, gc_, gd_, ge_⟩
   ·rw [hmk]
    simp only [List.map_cons, List.map_nil, Rows.uptoBulk, Rows.uptoBulkAll]
    omega
   ·rw [hmk]
    simp only [DataW.weights, ht] at hB
    exact ⟨Ta_ B fun n hn => hB n (weightsEach_mem hn _ _ 0 rfl rfl), Tb_ B fun n hn => hB n (weightsEach_mem hn _ _ 1 rfl rfl), Tc_ B fun n hn => hB n (weightsEach_mem hn _ _ 2 rfl rfl), Td_ B fun n hn => hB n (weightsEach_mem hn _ _ 3 rfl rfl), Te_ B fun n hn => hB n (weightsEach_mem hn _ _ 4 rfl rfl)⟩
end Go.Proofs.Ytaehlbbjbeibfaa.B
