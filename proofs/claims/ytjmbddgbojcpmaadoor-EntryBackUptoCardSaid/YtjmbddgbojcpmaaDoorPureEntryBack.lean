/-
  The law of entries that are put and parsed, for the seat YtjmbddgbojcpmaaDoor.
-/
import Derived.Test.YtjmbddgbojcpmaaDoorX17
import Derived.Test.YtjmbddgbojcpmaaDoorRwEntryBack
import Derived.Test.YtjmbddgbojcpmaaDoorJ
set_option linter.unusedVariables false
set_option linter.unusedSimpArgs false
namespace Go.Proofs.YtjmbddgbojcpmaaDoor.Pure
open Go.RowKit Go.Proofs.YtjmbddgbojcpmaaDoor.X Go.Proofs.YtjmbddgbojcpmaaDoor.B Go.Proofs.YtjmbddgbojcpmaaDoorW.PrintWords Go.Proofs.YtjmbddgbojcpmaaDoorW.PrintLast

theorem gI_ofU (x : Itm) (g : g29 x) (u : m29 x ≤ 1048576) : gI x ∧ bulk x.f0 := by
  obtain ⟨⟨g0, _, _⟩, _, g2, g3, g4⟩ := g
  unfold m29 m25 at u
  have hb : bulk x.f0 := by
    have e : (x.f0.f1.map fun y0 => m48 y0).sum = lsum x.f0.f1 := rfl
    rw [e] at u
    exact ⟨by omega, by omega⟩
  refine ⟨⟨in64_wf g0, by have := lab_count x.f0.f1; have := hb.1; omega, ?_, fun y hy => ?_, ?_⟩, hb⟩
  · simp [Lit.wf, IntKind.min, IntKind.max, IntKind.bits, IntKind.signed] at g2
    exact g2
  · have h := (g3.2 y hy).2.2
    simp [Lit.wf, IntKind.min, IntKind.max, IntKind.bits, IntKind.signed] at h
    omega
  · simp [Lit.wf, IntKind.min, IntKind.max, IntKind.bits, IntKind.signed] at g4
    omega
theorem bulk_ok {e : Ent} (h : bulk e) : okE e := by
  have h1 := lab_count e.f1
  have h2 := h.1
  unfold okE
  omega
theorem EntryBack : archivistlaw13_EntryBack.PureU := by
  intro x y behind cut gx gy gc hu
  obtain ⟨gix, bx⟩ := gI_ofU x gx (by omega)
  obtain ⟨giy, by'⟩ := gI_ofU y gy (by omega)
  have hbz : behind.size ≤ 1048576 := by omega
  have hc : 0 ≤ cut ∧ cut ≤ 65535 := by
    simp only [Lit.wf, IntKind.min, IntKind.max, IntKind.signed, IntKind.bits, Bool.and_eq_true, decide_eq_true_eq] at gc
    simp at gc
    omega
  clear hu gc
  obtain ⟨a, ia, ba, ha⟩ := item_evB x gix bx
  obtain ⟨b, ib, bb, hb⟩ := item_evB y giy by'
  refine Ev.rounds ?_
  unfold archivistlaw13_EntryBack.f
  have ta := putE_evB a ia ba
  have tb := putE_evB b ib bb
  obtain ⟨t, ht⟩ : ∃ t : ByteArray, t = ⟨(putE a).toArray⟩ := ⟨_, rfl⟩
  obtain ⟨u, hu2⟩ : ∃ u : ByteArray, u = ⟨(putE b).toArray⟩ := ⟨_, rfl⟩
  rw [← ht] at ta
  rw [← hu2] at tb
  have bt : by_ t = putE a := by rw [ht, by_mk]
  have bu : by_ u = putE b := by rw [hu2, by_mk]
  have tz : t.size = (putE a).length := by rw [← by_length, bt]
  have tl := bulk_len ia ba
  have tp : 1 ≤ (putE a).length := by
    unfold putE textL
    rw [List.length_append, List.length_append, List.length_cons]
    omega
  have ew : wrap64 cut = cut := wrap_in (by omega) (by omega)
  have k0 := Int.tmod_nonneg (t.size : Int) hc.1
  have k1 := Int.tmod_lt_of_pos cut (by omega : (0 : Int) < (t.size : Int))
  obtain ⟨k, hk⟩ := Int.eq_ofNat_of_zero_le k0
  have hlt : k < t.size := by omega
  have bk : by_ (t.extract 0 k) = (putE a).take k := by rw [by_extract, List.drop_zero, bt]
  have hr := rightE_ev a (by have := bulk_ok ba; have := lab_count a.f1; have := ba.1; omega)
  have head : ∀ (R1 R2 : Int × List Lab × ByteArray × Int × Bool) (Z : Nat → Option Bool), Ev (fun k => entry_Parse.f k (t ++ behind)) R1 → Ev (fun q => entry_Parse.f q (t.extract 0 k)) R2 → True := fun _ _ _ _ _ => trivial
  have nt : ¬ t.toList = ([] : List UInt8) := by
    rw [toList_by, bt]
    intro e
    rw [e] at tp
    simp at tp
  refine Ev.bind examples13_ev (Ev.pos (by trivial) (Ev.bind ha (Ev.bind hb (Ev.bind ta (Ev.neg nt (Ev.pos (by omega) ?_))))))
  rw [ew, hk]
  by_cases hra : rightE a
  · have p1 := parseE_ev a (by_ behind) (t ++ behind) ia hra (by rw [ByteArray.size_append]; omega) (by rw [by_append, bt])
    have p2 := parseE_cut a ia hra (t.extract 0 k) k (by omega) bk
    rw [hra.1, decide_eq_true hra.2] at hr
    have hs := sameE_ev a a (bulk_ok ba)
    rw [show (ordE a a == 0) = true by rw [beq_iff_eq]; exact (ordE_stands.eq _ _).2 rfl] at hs
    refine Ev.bind p1 (Ev.neg (by omega) (Ev.pos (by omega) (Ev.pos (by omega) (Ev.bind p2 (Ev.bind hr (Ev.pos rfl (Ev.pos rfl (Ev.bind hs (Ev.pos rfl (Ev.pos ?_ (Ev.neg (by simp) ?_)))))))))))
    · show (((putE a).length : Nat) : Int) = (t.size : Int)
      omega
    · have hrb := rightE_ev b (by have := bulk_ok bb; have := lab_count b.f1; have := bb.1; omega)
      refine Ev.bind hrb ?_
      by_cases hb2 : rightE b
      · rw [hb2.1, decide_eq_true hb2.2]
        have hs2 := sameE_ev a b (bulk_ok ba)
        refine Ev.pos rfl (Ev.bind tb (Ev.bind hs2 (Ev.ret ?_)))
        rw [toList_by, toList_by, bt, bu, beq_iff_eq, Bool.eq_iff_iff, beq_iff_eq, beq_iff_eq, ordE_stands.eq]
        exact ⟨putE_inj ia ib hra hb2, fun h => by rw [h]⟩
      · refine Ev.neg ?_ (Ev.now _)
        rw [Bool.and_eq_true, decide_eq_true_eq]
        exact hb2
  · obtain ⟨R1, p1⟩ := parseE_any (t ++ behind) (by rw [ByteArray.size_append]; omega)
    obtain ⟨R2, p2⟩ := parseE_any (t.extract 0 k) (by rw [ByteArray.size_extract]; omega)
    refine Ev.bind p1 (Ev.neg (by omega) (Ev.pos (by omega) (Ev.pos (by omega) (Ev.bind p2 (Ev.bind hr (Ev.neg ?_ ?_))))))
    · rw [Bool.and_eq_true, decide_eq_true_eq]
      exact hra
    · exact Ev.now _
end Go.Proofs.YtjmbddgbojcpmaaDoor.Pure
