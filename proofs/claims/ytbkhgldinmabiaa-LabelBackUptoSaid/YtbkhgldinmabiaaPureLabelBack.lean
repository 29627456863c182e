/-
  The law of sets of labels that are put and parsed, for the seat Ytbkhgldinmabiaa.
-/
import Derived.Test.YtbkhgldinmabiaaX32
import Derived.Test.YtbkhgldinmabiaaRwLabelBack
import Derived.Test.YtbkhgldinmabiaaJ
set_option linter.unusedVariables false
set_option linter.unusedSimpArgs false
namespace Go.Proofs.Ytbkhgldinmabiaa.Pure
open Go.RowKit Go.Proofs.Ytbkhgldinmabiaa.X Go.Proofs.Ytbkhgldinmabiaa.B Go.Proofs.YtbkhgldinmabiaaW.PrintWords Go.Proofs.YtbkhgldinmabiaaW.PrintLast

theorem sum_mem {α : Type} (f : α → Nat) : ∀ {l : List α} {y : α}, y ∈ l → f y ≤ (l.map f).sum
  | x :: l, y, h => by
    rw [List.map_cons, List.sum_cons]
    rcases List.mem_cons.1 h with rfl | h
    · omega
    · have := sum_mem f h
      omega
theorem LabelBack : archivistlaw06_LabelBack.PureU := by
  intro x y behind cut gx gy gc hu
  have hx : ∀ p ∈ x, p.f0.f0.size ≤ 1048576 ∧ p.f0.f1.size ≤ 1048576 := fun p hp => by
    have := sum_mem (fun y0 => m76 y0) hp
    unfold m76 m29 at this hu
    omega
  have hy : ∀ p ∈ y, p.f0.f0.size ≤ 1048576 ∧ p.f0.f1.size ≤ 1048576 := fun p hp => by
    have := sum_mem (fun y0 => m76 y0) hp
    unfold m76 m29 at this hu
    omega
  have hbz : behind.size ≤ 1048576 := by omega
  have hc : 0 ≤ cut ∧ cut ≤ 65535 := by
    simp only [Lit.wf, IntKind.min, IntKind.max, IntKind.signed, IntKind.bits, Bool.and_eq_true, decide_eq_true_eq] at gc
    simp at gc
    omega
  refine Ev.rounds ?_
  unfold archivistlaw06_LabelBack.f
  obtain ⟨A, hA, dA, ha⟩ := tags_ev x (fun y hy => (gx.2 y hy).2.2) 12 (by omega)
  obtain ⟨B, hB, dB, hb⟩ := tags_ev y (fun z hz => (gy.2 z hz).2.2) 12 (by omega)
  have la := of_len A
  have lb := of_len B
  have na := of_names A
  have nb := of_names B
  have za : ∀ p ∈ ofP [] A, p.f0.size ≤ 2000000 ∧ p.f1.size ≤ 2000000 := fun p hp => by
    rcases ofP_mem A [] p hp with h | h
    · simp at h
    · rcases dA p h with ⟨q, hq, e1, e2⟩ | h
      · have := hx q hq
        rw [e1, e2]
        omega
      · omega
  have zb : ∀ p ∈ ofP [] B, p.f0.size ≤ 2000000 ∧ p.f1.size ≤ 2000000 := fun p hp => by
    rcases ofP_mem B [] p hp with h | h
    · simp at h
    · rcases dB p h with ⟨q, hq, e1, e2⟩ | h
      · have := hy q hq
        rw [e1, e2]
        omega
      · omega
  refine Ev.bind labelExamples_ev (Ev.pos (by trivial) (Ev.bind ha (Ev.bind (of_ev A (by omega)) (Ev.bind hb (Ev.bind (of_ev B (by omega)) ?_)))))
  generalize ofP [] A = a at la na za ⊢
  generalize ofP [] B = b at lb nb zb ⊢
  have jl : ∀ l : List Lab, l.length ≤ 12 → (∀ p ∈ l, p.f0.size ≤ 2000000 ∧ p.f1.size ≤ 2000000) → (joinP [44] (l.map fieldP)).length ≤ 144000000 := fun l hl hz => by
    have := join_len 10000003 (l.map fieldP) (fun f hf => by
      obtain ⟨p, hp, rfl⟩ := List.mem_map.1 hf
      have h1 := field_len p
      have h2 := hz p hp
      omega)
    rw [List.length_map] at this
    have h3 : l.length * (10000003 + 1) ≤ 12 * (10000003 + 1) := Nat.mul_le_mul_right _ hl
    omega
  have ja := jl a (by omega) za
  have jb := jl b (by omega) zb
  have ta := text_set_ev a (by omega) za (by omega)
  have tb := text_set_ev b (by omega) zb (by omega)
  obtain ⟨t, ht⟩ : ∃ t : ByteArray, t = ⟨(textL a).toArray⟩ := ⟨_, rfl⟩
  obtain ⟨u, hu2⟩ : ∃ u : ByteArray, u = ⟨(textL b).toArray⟩ := ⟨_, rfl⟩
  rw [← ht] at ta
  rw [← hu2] at tb
  have bt : by_ t = textL a := by rw [ht, by_mk]
  have bu : by_ u = textL b := by rw [hu2, by_mk]
  have tz : t.size = (joinP [44] (a.map fieldP)).length + 2 := by
    rw [← by_length, bt]
    unfold textL
    simp
  refine Ev.bind ta (Ev.neg (by omega) (Ev.pos (by omega) ?_))
  have p1 := parse_set_ev (t ++ behind) (by rw [ByteArray.size_append]; omega)
  rw [by_append, bt, parse_put a (by omega) na] at p1
  refine Ev.bind p1 (Ev.neg (by omega) ?_)
  have ew : wrap64 cut = cut := wrap_in (by omega) (by omega)
  rw [ew]
  have k0 := Int.tmod_nonneg (t.size : Int) hc.1
  have k1 := Int.tmod_lt_of_pos cut (by omega : (0 : Int) < (t.size : Int))
  obtain ⟨k, hk⟩ := Int.eq_ofNat_of_zero_le k0
  rw [hk] at k0 k1 ⊢
  refine Ev.pos (by omega) (Ev.pos (by omega) ?_)
  rw [Int.toNat_natCast]
  have p2 := parse_set_ev (t.extract 0 k) (by simp; omega)
  have bk : by_ (t.extract 0 k) = (textL a).take k := by rw [by_extract, List.drop_zero, bt]
  rw [bk] at p2
  have hs := parse_short a (by omega) na k (by rw [← bt, by_length]; omega)
  refine Ev.bind p2 (Ev.bind (right_ev a (by omega)) ?_)
  have last : Ev (fun q => (label_Set_Text.f q b).bind fun t539 => ((label_Same.f q a b).bind fun t540 => (some ((t.toList == t539.toList) == t540)))) true := by
    refine Ev.bind tb (Ev.bind (same_ev a b (by omega)) (Ev.ret ?_))
    rw [toList_by, toList_by, bt, bu, beq_iff_eq, Bool.eq_iff_iff, beq_iff_eq, decide_eq_true_eq]
    exact ⟨text_inj (by omega) (by omega) na nb, fun h => by rw [h]⟩
  cases hr : rightL a with
  | true =>
    rw [if_pos rfl]
    refine Ev.pos rfl (Ev.pos (by first | trivial | rfl) (Ev.bind (same_ev a a (by omega)) (Ev.pos (decide_eq_true rfl) (Ev.pos ?_ (Ev.neg (by rw [hs]; simp) last)))))
    show ((textL a).length : Int) = (t.size : Int)
    rw [← bt, by_length]
  | false =>
    rw [if_neg (by simp)]
    exact Ev.pos rfl (Ev.neg (by simp) (Ev.neg (by rw [hs]; simp) last))
end Go.Proofs.Ytbkhgldinmabiaa.Pure
