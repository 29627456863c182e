/-
 The law of texts that begin with a set, or with none, for the seat Ytbkhgldinmabiaa.
-/
import Derived.Test.YtbkhgldinmabiaaX27
import Derived.Test.YtbkhgldinmabiaaRwLabelParses
import Derived.Test.YtbkhgldinmabiaaJP
import Derived.Test.YtbkhgldinmabiaaR
set_option linter.unusedVariables false
set_option linter.unusedSimpArgs false
namespace Go.Proofs.Ytbkhgldinmabiaa.Pure
open Go.RowKit Go.Proofs.Ytbkhgldinmabiaa.X Go.Proofs.Ytbkhgldinmabiaa.B Go.Proofs.YtbkhgldinmabiaaW.PrintWords Go.Proofs.YtbkhgldinmabiaaW.PrintLast

theorem sum_mem {α : Type} (f : α → Nat) : ∀ {l : List α} {y : α}, y ∈ l → f y ≤ (l.map f).sum
 | x :: l, y, h => by
  rw [List.map_cons, List.sum_cons]
  rcases List.mem_cons.1 h with rfl | h
  ·omega
  ·have := sum_mem f h
   omega
theorem bend_f (s : ByteArray) (a b : Int) (ha : -9223372036854775808 ≤ a ∧ a ≤ 9223372036854775807) (hb : 0 ≤ b ∧ b ≤ 255) (hs : s.size ≤ 9223372036854775807) : ∃ r, archivistlaw06_bend.f s a b = some r ∧ r.size = s.size := by
 unfold archivistlaw06_bend.f
 by_cases h0 : s.size = 0
 ·exact ⟨s, if_pos h0, rfl⟩
 ·refine ⟨_, by rw [if_neg h0, if_pos ⟨ha.1, ha.2, hb.1, hb.2, hs⟩], ?_⟩
  rw [size_nums, List.length_set, bytesOf_length]
theorem i64_wf {n : Int} (h : (Lit.int .i64 n).wf = true) : -9223372036854775808 ≤ n ∧ n ≤ 9223372036854775807 := by
 simp only [Lit.wf, IntKind.min, IntKind.max, IntKind.signed, IntKind.bits, Bool.and_eq_true, decide_eq_true_eq] at h
 simp at h
 omega
theorem u8_wf' {n : Int} (h : (Lit.int .u8 n).wf = true) : 0 ≤ n ∧ n ≤ 255 := by
 simp only [Lit.wf, IntKind.min, IntKind.max, IntKind.signed, IntKind.bits, Bool.and_eq_true, decide_eq_true_eq] at h
 simp at h
 omega
theorem endL_len (z : Nat) (o : Option (List Lab × List UInt8)) : (endL z o).1.length ≤ 16 := by
 cases o with
 | none => exact Nat.zero_le _
 | some lx =>
  obtain ⟨l, x⟩ := lx
  unfold endL
  simp only []
  cases h : rightL l with
  | true =>
   rw [if_pos rfl]
   unfold rightL at h
   rw [Bool.and_eq_true, decide_eq_true_eq] at h
   exact h.2
  | false =>
   rw [if_neg (by simp)]
   exact Nat.zero_le _
theorem parseL_len (t : List UInt8) : (parseL t).1.length ≤ 16 := by
 unfold parseL
 split
 ·exact Nat.zero_le _
 ·split
  ·exact Nat.zero_le _
  ·split
   ·exact endL_len _ _
   ·exact Nat.zero_le _
theorem parses_end (t : ByteArray) (ht : t.size < 140737488355328) {c : Prop} [Decidable c] (hc : c) : Ev (fun k => (label_Parse.f k t).bind fun bt479 => ((archivistref06_Parse.f k t).bind fun bt484 => ((archivistlaw06_samePairs.f k bt479.1 bt484.1).bind fun t489 => (if c then (if t489 = true then (if bt479.2.1 = bt484.2.1 then (some (bt479.2.2 == bt484.2.2)) else (none)) else (none)) else (none))))) true := by
 have hl := parseL_len (by_ t)
 refine Ev.bind (parse_set_ev t ht) (Ev.bind (refParse_ev t ht) (Ev.bind (samePairs_ev _ (parseL (by_ t)).1 (by omega)) (Ev.pos hc (Ev.pos (decide_eq_true rfl) (Ev.pos rfl (Ev.ret ?_))))))
 exact beq_self_eq_true _
theorem LabelParses : archivistlaw06_LabelParses.PureU := by
 intro x s how ix by8 gx g2 g3 g4 hu
 have hx : ∀ p ∈ x, p.f0.f0.size ≤ 1048576 ∧ p.f0.f1.size ≤ 1048576 := fun p hp => by
  have := sum_mem (fun y0 => m76 y0) hp
  unfold m76 m29 at this hu
  omega
 have hsz : s.size ≤ 1048576 := by omega
 refine Ev.rounds ?_
 unfold archivistlaw06_LabelParses.f
 obtain ⟨A, hA, dA, ha⟩ := tags_ev x (fun y hy => (gx.2 y hy).2.2) 18 (by omega)
 have la := of_len A
 have zA : ∀ p ∈ A, p.f0.size ≤ 1048576 ∧ p.f1.size ≤ 1048576 := fun p hp => by
  rcases dA p hp with ⟨q, hq, e1, e2⟩ | h
  ·have := hx q hq
   rw [e1, e2]
   exact this
  ·omega
 have zO : ∀ p ∈ ofP [] A, p.f0.size ≤ 1048576 ∧ p.f1.size ≤ 1048576 := fun p hp => by
  rcases ofP_mem A [] p hp with h | h
  ·simp at h
  ·exact zA p h
 have key : ∀ L : List Lab, L.length ≤ 18 → (∀ p ∈ L, p.f0.size ≤ 1048576 ∧ p.f1.size ≤ 1048576) → Ev (fun k => archivistlaw06_LabelParses.j0 k s how ix by8 true (L.map toR)) true := by
  intro L hL hz
  have ht := refText_ev L (by omega) hz
  have hj := join_len 10000003 (L.map fieldP) (fun f hf => by
   obtain ⟨p, hp, rfl⟩ := List.mem_map.1 hf
   have h1 := field_len p
   have h2 := hz p hp
   omega)
  rw [List.length_map] at hj
  have h3 : L.length * (10000003 + 1) ≤ 18 * (10000003 + 1) := Nat.mul_le_mul_right _ hL
  obtain ⟨t, et⟩ : ∃ t : ByteArray, t = ⟨(textL L).toArray⟩ := ⟨_, rfl⟩
  rw [← et] at ht
  have tz : t.size ≤ 200000000 := by
   rw [← by_length, et, by_mk (textL L)]
   unfold textL
   rw [List.length_cons, List.length_append, List.length_singleton]
   omega
  have hj1 : ∀ b : Bool, Ev (fun k => archivistlaw06_LabelParses.j1 k s ix by8 true t b) true := by
   intro b
   refine Ev.step (fun _ => rfl) ?_
   simp only [archivistlaw06_LabelParses.j1]
   cases b with
   | true =>
    obtain ⟨r, hr, hrz⟩ := bend_f t ix by8 (i64_wf g3) (u8_wf' g4) (by omega)
    rw [hr]
    exact Ev.pos (by trivial) (Ev.one (parses_end r (by omega) (by trivial)))
   | false => exact Ev.neg (by simp) (parses_end s (by omega) (by trivial))
  refine Ev.step (fun _ => rfl) ?_
  simp only [archivistlaw06_LabelParses.j0]
  refine Ev.bind ht ?_
  by_cases h0 : Int.tmod how 4 = 0
  ·exact Ev.pos h0 (Ev.pos (by omega) (parses_end (t ++ s) (by rw [ByteArray.size_append]; omega) (by trivial)))
  ·refine Ev.neg h0 ?_
   by_cases h1 : Int.tmod how 4 = 1
   ·exact Ev.pos h1 (hj1 _)
   ·exact Ev.neg h1 (hj1 _)
 refine Ev.bind labelExamples_ev (Ev.pos (by trivial) (Ev.bind ha (Ev.bind (refPairs_ev A (by omega)) (Ev.bind (refOf_ev A (by omega)) ?_))))
 by_cases h5 : Int.tmod how 8 > 5
 ·exact Ev.pos h5 (Ev.bind ha (Ev.bind (refPairs_ev A (by omega)) (key A hA zA)))
 ·exact Ev.neg h5 (key (ofP [] A) (by omega) zO)
end Go.Proofs.Ytbkhgldinmabiaa.Pure
