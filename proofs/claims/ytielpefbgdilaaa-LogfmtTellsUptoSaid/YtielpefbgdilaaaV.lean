/-
  What the document's answer to chapter 6 tells of texts and order: it is the program's, for the seat Ytielpefbgdilaaa.
-/
import Derived.Test.YtielpefbgdilaaaX19
import Derived.Test.YtielpefbgdilaaaS
set_option linter.unusedVariables false
set_option linter.unusedSimpArgs false
namespace Go.Proofs.Ytielpefbgdilaaa.B
open Go.RowKit Go.Proofs.Ytielpefbgdilaaa.X Go.Proofs.YtielpefbgdilaaaW.PrintWords Go.Proofs.YtielpefbgdilaaaW.PrintLast

/-! ### order -/
/-! ### text -/
theorem one_evS (b : UInt8) : Ev (fun k => archivistref01_one.f k (b.toNat : Int)) ⟨(oneP b).toArray⟩ := by
  refine Ev.of (k := 5) (archivistref01_one.mono _) ?_
  have h : ∀ n : Fin 256, archivistref01_one.f 5 ((UInt8.ofNat n.val).toNat : Int) = some ⟨(oneP (UInt8.ofNat n.val)).toArray⟩ := by decide +kernel
  have := h ⟨b.toNat, b.toNat_lt⟩
  simpa using this
/-! ### the document's Get -/
theorem refPut_loop (s : ByteArray) (hs : s.size ≤ 1048576) : ∀ (d i : Nat) (acc : ByteArray), s.size - i = d → i ≤ s.size → acc.size ≤ 1 + 4 * i →
    Ev (fun k => archivistref01_Put.l0 k s acc (i : Int)) (acc ++ ⟨(((by_ s).drop i).flatMap oneP ++ [34]).toArray⟩) := by
  have hb := by_length s
  intro d
  induction d with
  | zero =>
    intro i acc hd hi ha
    refine Ev.step (fun _ => rfl) ?_
    simp only [archivistref01_Put.l0]
    rw [List.drop_of_length_le (by omega)]
    exact Ev.neg (by omega) (Ev.pos (by omega) (Ev.now _))
  | succ d ih =>
    intro i acc hd hi ha
    have hlt : i < (by_ s).length := by omega
    have hc := bt_by s i hlt
    obtain ⟨b, hbb⟩ : ∃ b, (by_ s)[i] = b := ⟨_, rfl⟩
    rw [hbb] at hc
    have hdr := List.drop_eq_getElem_cons hlt
    rw [hbb] at hdr
    obtain ⟨w, hw⟩ : ∃ w : ByteArray, w = ⟨(oneP b).toArray⟩ := ⟨_, rfl⟩
    have hbw : by_ w = oneP b := by rw [hw, by_mk]
    have hwl := oneP_len b
    rw [← hbw, by_length] at hwl
    have h1 := one_evS b
    rw [← hw] at h1
    have ih' := ih (i + 1) (acc ++ w) (by omega) (by omega) (by rw [ByteArray.size_append]; omega)
    have e : acc ++ (⟨(((by_ s).drop i).flatMap oneP ++ [34]).toArray⟩ : ByteArray) = (acc ++ w) ++ ⟨(((by_ s).drop (i + 1)).flatMap oneP ++ [34]).toArray⟩ := by
      apply by_ext
      rw [by_append acc, by_append (acc ++ w), by_append acc w, by_mk (((by_ s).drop i).flatMap oneP ++ [34]), by_mk (((by_ s).drop (i + 1)).flatMap oneP ++ [34]), hbw, hdr, List.flatMap_cons, List.append_assoc, List.append_assoc]
    rw [e]
    refine Ev.step (fun _ => rfl) ?_
    simp only [archivistref01_Put.l0]
    rw [hc, show wrap64 ((i : Int) + 1) = ((i + 1 : Nat) : Int) by rw [wrap_in] <;> omega]
    exact Ev.pos (by omega) (Ev.pos (by omega) (Ev.bind h1 (Ev.pos (by omega) ih')))
theorem refPut_ev (s : ByteArray) (hs : s.size ≤ 1048576) : Ev (fun k => archivistref01_Put.f k s) ⟨(putP (by_ s)).toArray⟩ := by
  have h := refPut_loop s hs s.size 0 ⟨#[34]⟩ rfl (Nat.zero_le _) (by decide)
  rw [List.drop_zero] at h
  have e : (⟨#[34]⟩ : ByteArray) ++ ⟨((by_ s).flatMap oneP ++ [34]).toArray⟩ = ⟨(putP (by_ s)).toArray⟩ := by
    apply by_ext
    rw [by_append, by_mk, by_mk]
    rfl
  rw [e] at h
  exact h
def sufP (l : List Lab) : List UInt8 := l.flatMap fun p => 44 :: fieldP p
theorem join_suf : ∀ (l : List Lab) (x : Lab), joinP [44] ((x :: l).map fieldP) = fieldP x ++ sufP l
  | [], x => by
    rw [List.map_cons, List.map_nil, joinP_one]
    exact (List.append_nil _).symm
  | y :: l, x => by
    have h := join_suf l y
    rw [List.map_cons] at h
    rw [List.map_cons, List.map_cons, joinP_cons, h]
    unfold sufP
    rw [List.flatMap_cons, List.append_assoc]
    rfl
end Go.Proofs.Ytielpefbgdilaaa.B
