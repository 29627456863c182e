/-
  Plain lemmas of this session's on bytes, texts and rounds, for the seat YtpijoadbaocnpaaDoor: no program in sight.
-/
import Derived.Test.YtpijoadbaocnpaaDoorX0
set_option linter.unusedVariables false
set_option linter.unusedSimpArgs false
namespace Go.Proofs.YtpijoadbaocnpaaDoor.B
open Go.RowKit Go.Proofs.YtpijoadbaocnpaaDoor.X Go.Proofs.YtpijoadbaocnpaaDoorW.PrintWords Go.Proofs.YtpijoadbaocnpaaDoorW.PrintLast

/-! ### rounds -/
theorem Ev.pos {α : Type} {c : Prop} [Decidable c] {A B : Nat → Option α} {r : α} (h : c) (k : Ev A r) : Ev (fun n => if c then A n else B n) r := Ev.congr (fun n => if_pos h) k
theorem Ev.neg {α : Type} {c : Prop} [Decidable c] {A B : Nat → Option α} {r : α} (h : ¬ c) (k : Ev B r) : Ev (fun n => if c then A n else B n) r := Ev.congr (fun n => if_neg h) k
theorem Ev.one {α β : Type} {x : α} {f : Nat → α → Option β} {r : β} (k : Ev (fun n => f n x) r) : Ev (fun n => (some x).bind (f n)) r := k
theorem Ev.ret {α : Type} {x r : α} (h : x = r) : Ev (fun _ => some x) r := h ▸ Ev.now x
/-- what answers at some number of rounds answers so at every greater one: two answers are one -/
theorem Ev.fun_ {α : Type} {g : Nat → Option α} {r q : α} (h : Ev g r) (k : Ev g q) : r = q := by
  obtain ⟨K, h⟩ := h
  obtain ⟨K', k⟩ := k
  have h1 := h (max K K') (by omega)
  have h2 := k (max K K') (by omega)
  rw [h1] at h2
  exact Option.some.inj h2

/-! ### texts as lists of bytes -/
/-- a text's bytes -/
def by_ (s : ByteArray) : List UInt8 := s.data.toList
theorem toList_by (s : ByteArray) : s.toList = by_ s := x_toList s
theorem by_length (s : ByteArray) : (by_ s).length = s.size := data_length s
theorem by_ext {s t : ByteArray} (h : by_ s = by_ t) : s = t := by
  cases s
  cases t
  simp only [by_] at h
  exact congrArg ByteArray.mk (Array.toList_inj.mp h)
theorem by_mk (l : List UInt8) : by_ ⟨l.toArray⟩ = l := by simp [by_]
theorem by_lit (a : Array UInt8) : by_ ⟨a⟩ = a.toList := rfl
theorem by_append (s t : ByteArray) : by_ (s ++ t) = by_ s ++ by_ t := by simp [by_, ByteArray.data_append]
theorem by_extract (s : ByteArray) (i j : Nat) : by_ (s.extract i j) = ((by_ s).take j).drop i := by
  simp [by_, ByteArray.data_extract, Array.toList_extract, List.extract, List.drop_take]
theorem by_nums (xs : List Int) : by_ (strOfNums xs) = xs.map fun n => UInt8.ofNat n.toNat := rfl
theorem size_nums (xs : List Int) : (strOfNums xs).size = xs.length := strOfNums_size xs
theorem bt_by (s : ByteArray) (i : Nat) (h : i < (by_ s).length) : bt s i = (((by_ s)[i]).toNat : Int) := by
  have h2 : i < s.size := by rw [by_length] at h; exact h
  unfold bt
  rw [dif_pos (by simpa using h2)]
  rfl
theorem bt_nat (s : ByteArray) (i : Int) : ∃ n : Nat, bt s i = n ∧ n ≤ 255 := by
  obtain ⟨h0, h1⟩ := bt_range s i
  obtain ⟨n, hn⟩ := Int.eq_ofNat_of_zero_le h0
  exact ⟨n, hn, by omega⟩
theorem bt_get (s : ByteArray) (i : Nat) (h : i < s.size) : ∃ b : UInt8, (by_ s)[i]? = some b ∧ bt s i = (b.toNat : Int) := by
  have h2 : i < (by_ s).length := by rw [by_length]; exact h
  exact ⟨_, List.getElem?_eq_getElem h2, bt_by s i h2⟩
theorem wrap_in {x : Int} (h0 : -9223372036854775808 ≤ x) (h1 : x ≤ 9223372036854775807) : wrap64 x = x := by unfold wrap64; omega
theorem rdS (l : List ByteArray) (i : Nat) (h : i < l.length) : rdOf ByteArray.empty l (i : Int) = l[i] := by simp [rdOf, List.getD_eq_getElem?_getD, h]
theorem w1 (i : Nat) (h : i < 9223372036854775807) : wrap64 ((i : Int) + 1) = ((i + 1 : Nat) : Int) := by rw [wrap_in] <;> omega
end Go.Proofs.YtpijoadbaocnpaaDoor.B
