/-
 The plain texts of the seat Ytbkhgldinmabiaa in one.
-/
import Derived.Test.YtbkhgldinmabiaaX0
import Derived.Test.YtbkhgldinmabiaaX13
import Derived.Test.YtbkhgldinmabiaaX3
import Derived.Test.YtbkhgldinmabiaaX4
import Derived.Test.YtbkhgldinmabiaaX5
import Derived.Test.YtbkhgldinmabiaaX6
import Derived.Test.YtbkhgldinmabiaaX10
import Derived.Test.YtbkhgldinmabiaaX9
import Derived.Test.YtbkhgldinmabiaaX14
import Derived.Test.YtbkhgldinmabiaaX15
import Derived.Test.YtbkhgldinmabiaaX8
import Derived.Test.YtbkhgldinmabiaaX11
import Derived.Lib.Join
import Derived.Test.YtbkhgldinmabiaaX7
import Derived.Test.YtbkhgldinmabiaaX16
import Derived.Test.YtbkhgldinmabiaaX17
import Derived.Test.YtbkhgldinmabiaaX18
import Derived.Test.YtbkhgldinmabiaaX19
import Derived.Test.YtbkhgldinmabiaaX20
import Derived.Test.YtbkhgldinmabiaaX21
import Derived.Test.YtbkhgldinmabiaaX22
section
set_option linter.unusedVariables false
set_option linter.unusedSimpArgs false
namespace Go.Proofs.Ytbkhgldinmabiaa.B
open Go.RowKit Go.Proofs.Ytbkhgldinmabiaa.X Go.Proofs.YtbkhgldinmabiaaW.PrintWords Go.Proofs.YtbkhgldinmabiaaW.PrintLast

/-! ### rounds -/
theorem Ev.pos {α : Type} {c : Prop} [Decidable c] {A B : Nat → Option α} {r : α} (h : c) (k : Ev A r) : Ev (fun n => if c then A n else B n) r := Ev.congr (fun n => if_pos h) k
theorem Ev.neg {α : Type} {c : Prop} [Decidable c] {A B : Nat → Option α} {r : α} (h : ¬ c) (k : Ev B r) : Ev (fun n => if c then A n else B n) r := Ev.congr (fun n => if_neg h) k
theorem Ev.one {α β : Type} {x : α} {f : Nat → α → Option β} {r : β} (k : Ev (fun n => f n x) r) : Ev (fun n => (some x).bind (f n)) r := k
theorem Ev.ret {α : Type} {x r : α} (h : x = r) : Ev (fun _ => some x) r := h ▸ Ev.now x
/-! ### texts as lists of bytes -/
/-- a text's bytes -/
def by_ (s : ByteArray) : List UInt8 := s.data.toList
theorem toList_by (s : ByteArray) : s.toList = by_ s := x_toList s
theorem by_length (s : ByteArray) : (by_ s).length = s.size := data_length s
theorem by_ext {s t : ByteArray} (h : by_ s = by_ t) : s = t := by
 cases s
 cases t
 simp only [by_] at h
 exact congrArg ByteArray.mk (Array.toList_inj.mp h)
theorem by_mk (l : List UInt8) : by_ ⟨l.toArray⟩ = l := by simp [by_]
theorem by_append (s t : ByteArray) : by_ (s ++ t) = by_ s ++ by_ t := by simp [by_, ByteArray.data_append]
theorem by_extract (s : ByteArray) (i j : Nat) : by_ (s.extract i j) = ((by_ s).take j).drop i := by
 simp [by_, ByteArray.data_extract, Array.toList_extract, List.extract, List.drop_take]
theorem size_nums (xs : List Int) : (strOfNums xs).size = xs.length := strOfNums_size xs
theorem bt_by (s : ByteArray) (i : Nat) (h : i < (by_ s).length) : bt s i = (((by_ s)[i]).toNat : Int) := by
 have h2 : i < s.size := by rw [by_length] at h; exact h
 unfold bt
 rw [dif_pos (by simpa using h2)]
 rfl
theorem wrap_in {x : Int} (h0 : -9223372036854775808 ≤ x) (h1 : x ≤ 9223372036854775807) : wrap64 x = x := by unfold wrap64; omega
theorem rdS (l : List ByteArray) (i : Nat) (h : i < l.length) : rdOf ByteArray.empty l (i : Int) = l[i] := by simp [rdOf, List.getD_eq_getElem?_getD, h]
theorem w1 (i : Nat) (h : i < 9223372036854775807) : wrap64 ((i : Int) + 1) = ((i + 1 : Nat) : Int) := by rw [wrap_in] <;> omega
end Go.Proofs.Ytbkhgldinmabiaa.B
end

section
set_option linter.unusedVariables false
set_option linter.unusedSimpArgs false
namespace Go.Proofs.Ytbkhgldinmabiaa.B
open Go.RowKit Go.Proofs.Ytbkhgldinmabiaa.X Go.Proofs.YtbkhgldinmabiaaW.PrintWords Go.Proofs.YtbkhgldinmabiaaW.PrintLast

/-! ### what stands behind an escape -/
def hexd : List UInt8 := [48, 49, 50, 51, 52, 53, 54, 55, 56, 57, 97, 98, 99, 100, 101, 102]
/-- the place of a byte among some; -1: it is none -/
def hexv (c : UInt8) : Int := Lib.indexByte hexd c
theorem hexv_range (c : UInt8) : -1 ≤ hexv c ∧ hexv c ≤ 15 := by
 have h : ∀ n : Fin 256, -1 ≤ hexv (UInt8.ofNat n.val) ∧ hexv (UInt8.ofNat n.val) ≤ 15 := by decide +kernel
 have := h ⟨c.toNat, c.toNat_lt⟩
 simpa using this
theorem or_hex (h g : Int) (h0 : 0 ≤ h) (h1 : h ≤ 15) (g0 : 0 ≤ g) (g1 : g ≤ 15) : (Go.bits .or .i64 (wrap64 (h * 16)) g) % 256 = h * 16 + g := by
 obtain ⟨a, rfl⟩ := Int.eq_ofNat_of_zero_le h0
 obtain ⟨b, rfl⟩ := Int.eq_ofNat_of_zero_le g0
 have k : ∀ x y : Fin 16, (Go.bits .or .i64 (wrap64 (((x.val : Nat) : Int) * 16)) ((y.val : Nat) : Int)) % 256 = ((x.val : Nat) : Int) * 16 + ((y.val : Nat) : Int) := by decide +kernel
 exact k ⟨a, by omega⟩ ⟨b, by omega⟩
/-- the byte that is told by an escape, and how many bytes that has -/
def escP : List UInt8 → Option (UInt8 × Nat)
 | [] => none
 | c :: l =>
  if c.toNat = 34 then some (c, 1) else if c.toNat = 92 then some (c, 1) else if c.toNat = 110 then some (10, 1) else if c.toNat = 116 then some (9, 1)
  else match l with
   | h :: g :: _ =>
    if c.toNat = 120 ∧ 0 ≤ hexv h ∧ 0 ≤ hexv g ∧ ¬ (32 ≤ hexv h * 16 + hexv g ∧ hexv h * 16 + hexv g ≤ 126) ∧ hexv h * 16 + hexv g ≠ 10 ∧ hexv h * 16 + hexv g ≠ 9 then some (UInt8.ofNat (hexv h * 16 + hexv g).toNat, 3)
    else none
   | _ => none
/-- as the program tells it -/
def escI (o : Option (UInt8 × Nat)) : Int × Int := match o with
 | some (b, n) => ((b.toNat : Int), (n : Int))
 | none => (0, 0)
theorem idx_hex (s : ByteArray) (i : Nat) (c : UInt8) (h : (by_ s)[i]? = some c) : strings_IndexByte.f (⟨#[48, 49, 50, 51, 52, 53, 54, 55, 56, 57, 97, 98, 99, 100, 101, 102]⟩ : ByteArray) (bt s i) = some (hexv c) := by
 obtain ⟨hl, e⟩ := List.getElem?_eq_some_iff.1 h
 have : bt s i = (c.toNat : Int) := by rw [bt_by s i hl, e]
 rw [this]
 unfold strings_IndexByte.f hexv hexd
 simp
theorem bt_at_ (s : ByteArray) (i : Nat) (c : UInt8) (h : (by_ s)[i]? = some c) : bt s i = (c.toNat : Int) := by
 obtain ⟨hl, e⟩ := List.getElem?_eq_some_iff.1 h
 rw [bt_by s i hl, e]
theorem escaped_ev (s : ByteArray) : Ev (fun k => quote_escaped.f k s) (escI (escP (by_ s))) := by
 have hz := by_length s
 unfold quote_escaped.f
 rw [toList_by]
 cases hs : by_ s with
 | nil => exact Ev.pos rfl (Ev.now _)
 | cons c l =>
  rw [hs] at hz
  simp only [List.length_cons] at hz
  have h0 : bt s 0 = (c.toNat : Int) := bt_at_ s 0 c (by rw [hs]; rfl)
  have hc := c.toNat_lt
  refine Ev.neg (by simp) (Ev.pos (by omega) ?_)
  rw [h0]
  have hj : ∀ b : Bool, b = (decide (c.toNat = 34 ∨ c.toNat = 92)) → Ev (fun k => quote_escaped.j0 k s (c.toNat : Int) b) (escI (escP (c :: l))) := by
   intro b hb
   refine Ev.step (fun _ => rfl) ?_
   simp only [quote_escaped.j0, escP]
   by_cases c1 : c.toNat = 34
   ·rw [if_pos c1]
    refine Ev.pos (by rw [hb]; simp [c1]) (Ev.pos (by omega) ?_)
    rw [h0]
    exact Ev.now _
   rw [if_neg c1]
   by_cases c2 : c.toNat = 92
   ·rw [if_pos c2]
    refine Ev.pos (by rw [hb]; simp [c2]) (Ev.pos (by omega) ?_)
    rw [h0]
    exact Ev.now _
   rw [if_neg c2]
   refine Ev.neg (by rw [hb]; simp [c1, c2]) ?_
   by_cases c3 : c.toNat = 110
   ·rw [if_pos c3]
    exact Ev.pos (by omega) (Ev.now _)
   rw [if_neg c3]
   refine Ev.neg (by omega) ?_
   by_cases c4 : c.toNat = 116
   ·rw [if_pos c4]
    exact Ev.pos (by omega) (Ev.now _)
   rw [if_neg c4]
   refine Ev.neg (by omega) ?_
   match l, hs, hz with
   | [], hs, hz => exact Ev.pos (by simp at hz; omega) (Ev.step (f := fun _ => some (0, 0)) (fun _ => by simp [quote_escaped.j1]) (Ev.now _))
   | [_], hs, hz => exact Ev.pos (by simp at hz; omega) (Ev.step (f := fun _ => some (0, 0)) (fun _ => by simp [quote_escaped.j1]) (Ev.now _))
   | h :: g :: r, hs, hz =>
    simp only [List.length_cons] at hz
    refine Ev.neg (by omega) (Ev.pos (by omega) ?_)
    rw [h0]
    refine Ev.step (fun _ => rfl) ?_
    simp only [quote_escaped.j1]
    by_cases c5 : c.toNat = 120
    ·refine Ev.neg (by simp [c5]) (Ev.pos (by omega) ?_)
     have i1 := idx_hex s 1 h (by rw [hs]; rfl)
     have i2 := idx_hex s 2 g (by rw [hs]; rfl)
     refine Ev.congr (fun k => by rw [show (1 : Int) = ((1 : Nat) : Int) from rfl, i1, Option.bind_some]) (Ev.pos (by omega) (Ev.congr (fun k => by rw [show (2 : Int) = ((2 : Nat) : Int) from rfl, i2, Option.bind_some]) ?_))
     obtain ⟨hh0, hh1⟩ := hexv_range h
     obtain ⟨hg0, hg1⟩ := hexv_range g
     by_cases hcond : c.toNat = 120 ∧ 0 ≤ hexv h ∧ 0 ≤ hexv g ∧ ¬ (32 ≤ hexv h * 16 + hexv g ∧ hexv h * 16 + hexv g ≤ 126) ∧ hexv h * 16 + hexv g ≠ 10 ∧ hexv h * 16 + hexv g ≠ 9
     ·rw [if_pos hcond]
      obtain ⟨_, n1, n2, n3, n4, n5⟩ := hcond
      refine Ev.neg (by omega) (Ev.neg (by omega) ?_)
      rw [or_hex _ _ (by omega) hh1 (by omega) hg1]
      have hw : (((UInt8.ofNat (hexv h * 16 + hexv g).toNat).toNat : Nat) : Int) = hexv h * 16 + hexv g := by
       rw [UInt8.toNat_ofNat']
       omega
      have hr : escI (some (UInt8.ofNat (hexv h * 16 + hexv g).toNat, 3)) = (hexv h * 16 + hexv g, 3) := by
       simp only [escI, hw]
       rfl
      rw [hr]
      by_cases n6 : hexv h * 16 + hexv g ≥ 32
      ·exact Ev.pos n6 (Ev.neg (by omega) (Ev.neg n4 (Ev.neg n5 (Ev.now _))))
      ·exact Ev.neg n6 (Ev.neg n4 (Ev.neg n5 (Ev.now _)))
     ·rw [if_neg hcond]
      by_cases n1 : hexv h < 0
      ·exact Ev.pos n1 (Ev.now _)
      refine Ev.neg n1 ?_
      by_cases n2 : hexv g < 0
      ·exact Ev.pos n2 (Ev.now _)
      refine Ev.neg n2 ?_
      rw [or_hex _ _ (by omega) hh1 (by omega) hg1]
      by_cases n6 : hexv h * 16 + hexv g ≥ 32
      ·refine Ev.pos n6 ?_
       by_cases n7 : hexv h * 16 + hexv g ≤ 126
       ·exact Ev.pos n7 (Ev.now _)
       ·exact absurd ⟨c5, by omega, by omega, by omega, by omega, by omega⟩ hcond
      ·refine Ev.neg n6 ?_
       by_cases n7 : hexv h * 16 + hexv g = 10
       ·exact Ev.pos n7 (Ev.now _)
       refine Ev.neg n7 ?_
       by_cases n8 : hexv h * 16 + hexv g = 9
       ·exact Ev.pos n8 (Ev.now _)
       ·exact absurd ⟨c5, by omega, by omega, by omega, n7, n8⟩ hcond
    ·refine Ev.pos (by simp; omega) ?_
     rw [if_neg (by intro h; exact c5 h.1)]
     exact Ev.now _
  by_cases c1 : (c.toNat : Int) = 34
  ·exact Ev.pos c1 (hj _ (by rw [Bool.eq_iff_iff]; simp; omega))
  ·exact Ev.neg c1 (hj _ (by rw [Bool.eq_iff_iff]; simp; omega))
/-! ### a text in quotes -/
/-- the byte that stands at the begin of what is in quotes, and how many bytes tell it -/
def decP : List UInt8 → Option (UInt8 × Nat)
 | [] => none
 | c :: l => if c.toNat = 92 then (escP l).map fun r => (r.1, r.2 + 1) else if c.toNat < 32 ∨ 126 < c.toNat then none else some (c, 1)
/-- what stands up to the quote that ends it, and how many bytes that has, the quote with it -/
def unqP : List UInt8 → Option (List UInt8 × Nat)
 | [] => none
 | c :: l => if c.toNat = 34 then some ([], 1) else match decP (c :: l) with
  | none => none
  | some (b, n) => (unqP (l.drop (n - 1))).map fun r => (b :: r.1, r.2 + n)
termination_by l => l.length
decreasing_by simp; omega
def getP : List UInt8 → Option (List UInt8 × Nat)
 | [] => none
 | c :: l => if c.toNat = 34 then (unqP l).map fun r => (r.1, r.2 + 1) else none
/-- as the program tells it -/
def getI (o : Option (List UInt8 × Nat)) : ByteArray × Int × Bool := match o with
 | some (t, n) => (⟨t.toArray⟩, (n : Int), true)
 | none => (⟨#[]⟩, 0, false)
def up_ (l : List UInt8) : List Int := l.map fun b => (b.toNat : Int)
theorem nums_up (l : List UInt8) : strOfNums (up_ l) = ⟨l.toArray⟩ := by
 unfold strOfNums up_
 rw [List.map_map]
 congr 2
 conv => rhs; rw [← List.map_id l]
 apply List.map_congr_left
 intro b _
 simp
theorem escP_len {l : List UInt8} {b : UInt8} {n : Nat} (h : escP l = some (b, n)) : 1 ≤ n ∧ n ≤ l.length := by
 match l, h with
 | [], h => simp [escP] at h
 | [c], h =>
  simp only [escP] at h
  repeat' split at h
  all_goals simp at h
  all_goals (obtain ⟨_, rfl⟩ := h; simp)
 | [c, d], h =>
  simp only [escP] at h
  repeat' split at h
  all_goals simp at h
  all_goals (obtain ⟨_, rfl⟩ := h; simp)
 | c :: d :: e :: r, h =>
  simp only [escP] at h
  repeat' split at h
  all_goals simp at h
  all_goals (obtain ⟨_, rfl⟩ := h; simp)
theorem decP_len {l : List UInt8} {b : UInt8} {n : Nat} (h : decP l = some (b, n)) : 1 ≤ n ∧ n ≤ l.length := by
 match l, h with
 | [], h => simp [decP] at h
 | c :: l, h =>
  simp only [decP] at h
  split at h
  ·obtain ⟨⟨b2, n2⟩, h2, h3⟩ := Option.map_eq_some_iff.1 h
   have := escP_len h2
   simp at h3
   obtain ⟨_, rfl⟩ := h3
   simp
   omega
  ·split at h
   ·simp at h
   ·simp at h
    obtain ⟨_, rfl⟩ := h
    simp
theorem unqP_len : ∀ (d : Nat) (l : List UInt8) (t : List UInt8) (n : Nat), l.length = d → unqP l = some (t, n) → 1 ≤ n ∧ n ≤ l.length := by
 intro d
 induction d using Nat.strongRecOn with
 | _ d ih =>
  intro l t n hd h
  match l, hd, h with
  | [], _, h => simp [unqP] at h
  | c :: l, hd, h =>
   rw [unqP] at h
   split at h
   ·simp at h
    obtain ⟨_, rfl⟩ := h
    simp
   ·split at h
    ·simp at h
    ·rename_i b m hdec
     obtain ⟨⟨t2, n2⟩, h2, h3⟩ := Option.map_eq_some_iff.1 h
     have h4 := decP_len hdec
     simp only [List.length_cons] at hd h4
     have h5 := ih (l.drop (m - 1)).length (by simp; omega) _ t2 n2 rfl h2
     simp at h3 h5
     obtain ⟨_, rfl⟩ := h3
     simp
     omega
theorem w_succ (i : Nat) (h : i < 140737488355328) : wrap64 ((i : Int) + 1) = ((i + 1 : Nat) : Int) := by rw [wrap_in (by omega) (by omega)]; omega
theorem w_skip (i n : Nat) (h : i + n < 140737488355328) : wrap64 (wrap64 ((i : Int) + (n : Int)) + 1) = ((i + n + 1 : Nat) : Int) := by rw [wrap_in (x := (i : Int) + n) (by omega) (by omega), wrap_in (by omega) (by omega)]; omega
set_option maxHeartbeats 1000000 in
theorem get_loop (s : ByteArray) (hs : s.size < 140737488355328) : ∀ (d i : Nat) (acc : List UInt8), s.size - i = d → i ≤ s.size → acc.length ≤ i →
  Ev (fun k => quote_Get.l0 k s (up_ acc) (i : Int)) (getI ((unqP ((by_ s).drop i)).map fun r => (acc ++ r.1, r.2 + i))) := by
 intro d
 induction d using Nat.strongRecOn with
 | _ d ih =>
  intro i acc hd hi ha
  have hz := by_length s
  refine Ev.step (fun _ => rfl) ?_
  simp only [quote_Get.l0]
  by_cases h1 : i < s.size
  ·have hl : i < (by_ s).length := by omega
   rw [List.drop_eq_getElem_cons hl]
   have hb := bt_by s i hl
   obtain ⟨c, hc⟩ : ∃ c, (by_ s)[i] = c := ⟨_, rfl⟩
   rw [hc] at hb ⊢
   have hcl := c.toNat_lt
   refine Ev.pos (by omega) (Ev.pos (by omega) ?_)
   rw [hb, unqP]
   have hi2 : i < 140737488355328 := by omega
   by_cases c1 : c.toNat = 34
   ·rw [if_pos c1]
    refine Ev.pos (by omega) (Ev.ret ?_)
    simp only [Option.map_some, getI, nums_up, w_succ i hi2, List.append_nil]
    congr 2
    omega
   rw [if_neg c1]
   refine Ev.neg (by omega) ?_
   by_cases c2 : c.toNat = 92
   ·refine Ev.pos (by omega) ?_
    rw [w_succ i hi2]
    refine Ev.pos (by omega) (Ev.pos (by omega) ?_)
    have he : by_ (s.extract ((i + 1 : Nat) : Int).toNat s.size) = (by_ s).drop (i + 1) := by
     rw [by_extract, Int.toNat_natCast, List.take_of_length_le (by omega)]
    have hev := escaped_ev (s.extract ((i + 1 : Nat) : Int).toNat s.size)
    rw [he] at hev
    refine Ev.bind hev ?_
    simp only [decP]
    rw [if_pos c2]
    cases hesc : escP ((by_ s).drop (i + 1)) with
    | none => exact Ev.pos rfl (Ev.now _)
    | some r =>
     obtain ⟨b, n⟩ := r
     have hn := escP_len hesc
     rw [List.length_drop] at hn
     have hlt : s.size - (i + n + 1) < d := by clear hs hi2 hb; omega
     have hle : i + n + 1 ≤ s.size := by clear hs hi2 hb; omega
     have hal : (acc ++ [b]).length ≤ i + n + 1 := by clear hs hi2 hb; simp; omega
     have hrec := ih (s.size - (i + n + 1)) hlt (i + n + 1) (acc ++ [b]) rfl hle hal
     have hlen : (up_ acc).length < 140737488355328 := by simp only [up_, List.length_map]; omega
     refine Ev.neg (by simp only [escI]; omega) ?_
     refine Ev.pos hlen ?_
     simp only [escI, Option.map_some]
     have e1 : up_ acc ++ [((b.toNat : Nat) : Int)] = up_ (acc ++ [b]) := by simp [up_]
     rw [w_skip i n (by omega), e1]
     have e2 : (List.drop (i + 1) (by_ s)).drop (n + 1 - 1) = (by_ s).drop (i + n + 1) := by rw [List.drop_drop]; congr 1; omega
     rw [e2]
     have e3 : (Option.map (fun r => (acc ++ r.1, r.2 + i)) (Option.map (fun r => (b :: r.1, r.2 + (n + 1))) (unqP ((by_ s).drop (i + n + 1))))) = (unqP ((by_ s).drop (i + n + 1))).map fun r => ((acc ++ [b]) ++ r.1, r.2 + (i + n + 1)) := by
      rw [Option.map_map]
      congr 1
      funext r
      simp
      omega
     rw [e3]
     exact hrec
   refine Ev.neg (by omega) ?_
   simp only [decP]
   rw [if_neg c2]
   by_cases c3 : c.toNat < 32
   ·rw [if_pos (.inl c3)]
    exact Ev.pos (by omega) (Ev.now _)
   refine Ev.neg (by omega) ?_
   by_cases c4 : 126 < c.toNat
   ·rw [if_pos (.inr c4)]
    exact Ev.pos (by omega) (Ev.now _)
   have hlen : (up_ acc).length < 140737488355328 := by simp only [up_, List.length_map]; omega
   refine Ev.neg (by omega) ?_
   refine Ev.pos hlen ?_
   rw [if_neg (by omega), w_succ i hi2]
   have e1 : up_ acc ++ [((c.toNat : Nat) : Int)] = up_ (acc ++ [c]) := by simp [up_]
   rw [e1]
   have hrec := ih (s.size - (i + 1)) (by omega) (i + 1) (acc ++ [c]) rfl (by omega) (by simp; omega)
   have e3 : (Option.map (fun r => (acc ++ r.1, r.2 + i)) (Option.map (fun r => (c :: r.1, r.2 + 1)) (unqP (List.drop (1 - 1) ((by_ s).drop (i + 1)))))) = (unqP ((by_ s).drop (i + 1))).map fun r => ((acc ++ [c]) ++ r.1, r.2 + (i + 1)) := by
    rw [Option.map_map, Nat.sub_self, List.drop_zero]
    congr 1
    funext r
    simp
    omega
   simp only
   rw [e3]
   exact hrec
  ·rw [List.drop_of_length_le (by omega), unqP]
   exact Ev.neg (by omega) (Ev.now _)
theorem get_ev (s : ByteArray) (hs : s.size < 140737488355328) : Ev (fun k => quote_Get.f k s) (getI (getP (by_ s))) := by
 have hz := by_length s
 unfold quote_Get.f
 rw [toList_by]
 cases hb : by_ s with
 | nil => exact Ev.pos rfl (Ev.step (f := fun _ => some (⟨#[]⟩, 0, false)) (fun _ => by simp [quote_Get.j0]) (Ev.now _))
 | cons c l =>
  rw [hb] at hz
  simp only [List.length_cons] at hz
  have h0 : bt s 0 = (c.toNat : Int) := bt_at_ s 0 c (by rw [hb]; rfl)
  refine Ev.neg (by simp) (Ev.pos (by omega) (Ev.step (fun _ => rfl) ?_))
  simp only [quote_Get.j0, getP, h0]
  by_cases c1 : c.toNat = 34
  ·rw [if_pos c1]
   refine Ev.neg (by simp; omega) ?_
   have h := get_loop s hs (s.size - 1) 1 [] rfl (by omega) (by simp)
   rw [hb] at h
   have e0 : (Option.map (fun r => (([] : List UInt8) ++ r.1, r.2 + 1)) (unqP (List.drop 1 (c :: l)))) = (unqP l).map fun r => (r.1, r.2 + 1) := by simp
   rw [e0] at h
   exact h
  ·rw [if_neg c1]
   exact Ev.pos (by simp; omega) (Ev.now _)
end Go.Proofs.Ytbkhgldinmabiaa.B
end

section
set_option linter.unusedVariables false
set_option linter.unusedSimpArgs false
namespace Go.Proofs.Ytbkhgldinmabiaa.B
open Go.RowKit Go.Proofs.Ytbkhgldinmabiaa.X Go.Proofs.YtbkhgldinmabiaaW.PrintWords Go.Proofs.YtbkhgldinmabiaaW.PrintLast

/-! ### names -/
def nameC (c : UInt8) : Bool := c.toNat == 95 || (48 ≤ c.toNat && c.toNat ≤ 57) || (65 ≤ c.toNat && c.toNat ≤ 90) || (97 ≤ c.toNat && c.toNat ≤ 122)
def nameP : List UInt8 → Bool
 | [] => false
 | c :: l => decide (l.length < 32) && !(48 ≤ c.toNat && c.toNat ≤ 57) && (c :: l).all nameC
theorem nameC_no (c : UInt8) : nameC c = false ↔ c.toNat ≠ 95 ∧ (c.toNat < 48 ∨ 57 < c.toNat) ∧ (c.toNat < 65 ∨ Go.bits .or .u8 (c.toNat : Int) 32 < 97 ∨ 122 < Go.bits .or .u8 (c.toNat : Int) 32) := by
 have h : ∀ n : Fin 256, nameC (UInt8.ofNat n.val) = false ↔ (UInt8.ofNat n.val).toNat ≠ 95 ∧ ((UInt8.ofNat n.val).toNat < 48 ∨ 57 < (UInt8.ofNat n.val).toNat) ∧ ((UInt8.ofNat n.val).toNat < 65 ∨ Go.bits .or .u8 ((UInt8.ofNat n.val).toNat : Int) 32 < 97 ∨ 122 < Go.bits .or .u8 ((UInt8.ofNat n.val).toNat : Int) 32) := by decide +kernel
 have := h ⟨c.toNat, c.toNat_lt⟩
 simpa using this
theorem name_loop (s : ByteArray) (hz : s.size ≤ 32) : ∀ (d i : Nat), s.size - i = d → i ≤ s.size →
  Ev (fun k => label_Name.l0 k (bytesOf s) ((bytesOf s).length : Int) (i : Int)) (((by_ s).drop i).all nameC)
 | 0, i, hd, hi => by
  have hb := by_length s
  have hl := bytesOf_length s
  refine Ev.step (fun _ => rfl) ?_
  simp only [label_Name.l0]
  rw [List.drop_of_length_le (by omega)]
  exact Ev.neg (by omega) (Ev.now _)
 | d + 1, i, hd, hi => by
  have hb := by_length s
  have hl := bytesOf_length s
  have hlt : i < (by_ s).length := by omega
  refine Ev.step (fun _ => rfl) ?_
  simp only [label_Name.l0]
  have ih := name_loop s hz d (i + 1) (by omega) (by omega)
  have hc : rd (bytesOf s) (i : Int) = (((by_ s)[i]).toNat : Int) := by rw [rd_bytesOf, bt_by s i hlt]
  rw [List.drop_eq_getElem_cons hlt, List.all_cons, w_succ i (by omega), hc]
  obtain ⟨c, hcc⟩ : ∃ c, (by_ s)[i] = c := ⟨_, rfl⟩
  rw [hcc]
  refine Ev.pos (by omega) (Ev.pos (by omega) (Ev.pos (by omega) ?_))
  by_cases hn : nameC c = true
  ·rw [hn, Bool.true_and]
   have h2 : ¬ (c.toNat ≠ 95 ∧ (c.toNat < 48 ∨ 57 < c.toNat) ∧ (c.toNat < 65 ∨ Go.bits .or .u8 (c.toNat : Int) 32 < 97 ∨ 122 < Go.bits .or .u8 (c.toNat : Int) 32)) := fun h => by rw [(nameC_no c).mpr h] at hn; cases hn
   by_cases c1 : (c.toNat : Int) = 95
   ·exact Ev.pos c1 ih
   refine Ev.neg c1 ?_
   by_cases c2 : (c.toNat : Int) < 48
   ·refine Ev.pos c2 (Ev.neg (by omega) (Ev.neg (by omega) (Ev.neg (by omega) ih)))
   refine Ev.neg c2 ?_
   by_cases c3 : (c.toNat : Int) > 57
   ·refine Ev.pos c3 (Ev.neg (by omega) (Ev.neg (by omega) (Ev.neg (by omega) ih)))
   ·exact Ev.neg c3 ih
  ·rw [Bool.not_eq_true] at hn
   obtain ⟨h1, h2, h3⟩ := (nameC_no c).mp hn
   rw [hn, Bool.false_and]
   refine Ev.neg (by omega) ?_
   by_cases c2 : (c.toNat : Int) < 48
   ·refine Ev.pos c2 ?_
    by_cases c4 : (c.toNat : Int) < 65
    ·exact Ev.pos c4 (Ev.now _)
    ·omega
   refine Ev.neg c2 (Ev.pos (by omega) ?_)
   by_cases c4 : (c.toNat : Int) < 65
   ·exact Ev.pos c4 (Ev.now _)
   refine Ev.neg c4 ?_
   by_cases c5 : Go.bits .or .u8 (c.toNat : Int) 32 < 97
   ·exact Ev.pos c5 (Ev.now _)
   ·exact Ev.neg c5 (Ev.pos (by omega) (Ev.now _))
theorem name_ev (s : ByteArray) : Ev (fun k => label_Name.f k s) (nameP (by_ s)) := by
 have hb := by_length s
 have hno : Ev (fun k => label_Name.j0 k s true) false := Ev.step (f := fun _ => some false) (fun _ => by simp [label_Name.j0]) (Ev.now _)
 unfold label_Name.f
 rw [toList_by]
 cases hs : by_ s with
 | nil => exact Ev.pos rfl hno
 | cons c l =>
  rw [hs] at hb
  simp only [List.length_cons] at hb
  have h0 : bt s 0 = (c.toNat : Int) := bt_at_ s 0 c (by rw [hs]; rfl)
  refine Ev.neg (by simp) ?_
  by_cases h32 : (s.size : Int) > 32
  ·refine Ev.pos h32 ?_
   have e : nameP (c :: l) = false := by simp only [nameP]; rw [decide_eq_false (by omega)]; rfl
   rw [e]
   exact hno
  refine Ev.neg h32 (Ev.pos (by omega) ?_)
  have hyes : Ev (fun k => label_Name.j0 k s false) ((c :: l).all nameC) := by
   refine Ev.step (fun _ => rfl) ?_
   simp only [label_Name.j0]
   have h := name_loop s (by omega) s.size 0 rfl (by omega)
   rw [List.drop_zero, hs] at h
   exact Ev.neg (by simp) (Ev.pos (by omega) (Ev.one h))
  rw [h0]
  have e0 : decide (l.length < 32) = true := decide_eq_true (by omega)
  simp only [nameP, e0, Bool.true_and]
  by_cases c1 : (c.toNat : Int) ≥ 48
  ·refine Ev.pos c1 ?_
   by_cases c2 : (c.toNat : Int) ≤ 57
   ·rw [decide_eq_true c2, decide_eq_true (show 48 ≤ c.toNat by omega), decide_eq_true (show c.toNat ≤ 57 by omega)]
    exact hno
   ·rw [decide_eq_false c2, decide_eq_false (show ¬ c.toNat ≤ 57 by omega), Bool.and_false, Bool.not_false, Bool.true_and]
    exact hyes
  ·refine Ev.neg c1 ?_
   rw [decide_eq_false (show ¬ 48 ≤ c.toNat by omega), Bool.false_and, Bool.not_false, Bool.true_and]
   exact hyes
end Go.Proofs.Ytbkhgldinmabiaa.B
end

section
set_option linter.unusedVariables false
set_option linter.unusedSimpArgs false
namespace Go.Proofs.Ytbkhgldinmabiaa.B
open Go.RowKit Go.Proofs.Ytbkhgldinmabiaa.X Go.Proofs.YtbkhgldinmabiaaW.PrintWords Go.Proofs.YtbkhgldinmabiaaW.PrintLast

/-! ### how names stand -/
/-- one name ahead of another one -/
def nl (a b : ByteArray) : Prop := Op.bytesLess (by_ a) (by_ b) = true
instance (a b : ByteArray) : Decidable (nl a b) := inferInstanceAs (Decidable (_ = true))
theorem cmpB : ∀ (a b : List UInt8), (Op.bytesLess a b = true ∧ Lib.compareBytes a b = -1) ∨ (a = b ∧ Lib.compareBytes a b = 0) ∨ (Op.bytesLess b a = true ∧ Lib.compareBytes a b = 1)
 | [], [] => .inr (.inl ⟨rfl, rfl⟩)
 | [], _ :: _ => .inl ⟨rfl, rfl⟩
 | _ :: _, [] => .inr (.inr ⟨rfl, rfl⟩)
 | x :: a, y :: b => by
  simp only [Op.bytesLess, Lib.compareBytes]
  by_cases h1 : x < y
  ·exact .inl ⟨by simp [h1], by simp [h1]⟩
  ·by_cases h2 : y < x
   ·exact .inr (.inr ⟨by simp [h2], by simp [h1, h2]⟩)
   ·have e : x = y := by
     rw [UInt8.lt_iff_toNat_lt] at h1 h2
     exact UInt8.toNat_inj.1 (by omega)
    subst e
    rw [if_neg h1, if_neg h1]
    rcases cmpB a b with h | h | h
    ·exact .inl ⟨by simp [h.1], h.2⟩
    ·exact .inr (.inl ⟨by rw [h.1], h.2⟩)
    ·exact .inr (.inr ⟨by simp [h.1], h.2⟩)
theorem nl_irrefl (a : ByteArray) : ¬ nl a a := fun h => x_less_ne h rfl
theorem nl_asym {a b : ByteArray} (h : nl a b) : ¬ nl b a := fun h2 => by
 have := x_less_asym h
 rw [h2] at this
 cases this
theorem names_f (a b c d : ByteArray) : ∃ r, label_names.f a b c d = some r ∧ (r < 0 ↔ nl a c) ∧ (r = 0 ↔ a = c) := by
 refine ⟨Lib.compareBytes (by_ a) (by_ c), ?_, ?_, ?_⟩
 ·unfold label_names.f strings_Compare.f
  rfl
 ·rcases cmpB (by_ a) (by_ c) with h | h | h
  ·rw [h.2]
   exact ⟨fun _ => h.1, fun _ => by omega⟩
  ·rw [h.2]
   exact ⟨fun h => by omega, fun h2 => absurd h.1 (x_less_ne h2)⟩
  ·rw [h.2]
   exact ⟨fun h => by omega, fun h2 => absurd h2 (nl_asym (a := c) (b := a) h.1)⟩
 ·rcases cmpB (by_ a) (by_ c) with h | h | h
  ·rw [h.2]
   exact ⟨fun h => by omega, fun e => by subst e; exact absurd h.1 (nl_irrefl a)⟩
  ·rw [h.2]
   exact ⟨fun _ => by_ext h.1, fun _ => rfl⟩
  ·rw [h.2]
   exact ⟨fun h => by omega, fun e => by subst e; exact absurd h.1 (nl_irrefl a)⟩
/-! ### sets: each name once, rising -/
abbrev Lab := S29
/-- how many stand ahead of a name -/
def posP (l : List Lab) (n : ByteArray) : Nat := (l.takeWhile fun x => decide (nl x.f0 n)).length
theorem rdLab (l : List Lab) (i : Nat) (h : i < l.length) : rd_T29 l (i : Int) = l[i] := by simp [rd_T29, h]
end Go.Proofs.Ytbkhgldinmabiaa.B
end

section
set_option linter.unusedVariables false
set_option linter.unusedSimpArgs false
namespace Go.Proofs.Ytbkhgldinmabiaa.B
open Go.RowKit Go.Proofs.Ytbkhgldinmabiaa.X Go.Proofs.YtbkhgldinmabiaaW.PrintWords Go.Proofs.YtbkhgldinmabiaaW.PrintLast

/-- one label more -/
def stepP (l : List Lab) (p : Lab) : List Lab :=
 if h : posP l p.f0 < l.length then if l[posP l p.f0].f0 = p.f0 then l.set (posP l p.f0) p else l.take (posP l p.f0) ++ [p] ++ l.drop (posP l p.f0)
 else l ++ [p]
theorem stepP_cons (x : Lab) (l : List Lab) (p : Lab) : stepP (x :: l) p = if nl x.f0 p.f0 then x :: stepP l p else if x.f0 = p.f0 then p :: l else p :: x :: l := by
 unfold stepP posP
 by_cases h : nl x.f0 p.f0
 ·rw [if_pos h]
  simp only [List.takeWhile_cons, decide_eq_true h, if_true, List.length_cons, Nat.add_lt_add_iff_right, List.getElem_cons_succ, List.set_cons_succ, List.take_succ_cons, List.drop_succ_cons, List.cons_append]
  split
  ·split <;> rfl
  ·rfl
 ·rw [if_neg h]
  simp only [List.takeWhile_cons, decide_eq_false h, if_false, List.length_nil, List.length_cons, Bool.false_eq_true, Nat.zero_lt_succ, dite_true, List.getElem_cons_zero, List.set_cons_zero, List.take_zero, List.drop_zero, List.nil_append, List.singleton_append]
theorem stepP_nil (p : Lab) : stepP [] p = [p] := rfl
theorem stepP_mem : ∀ (l : List Lab) (p y : Lab), y ∈ stepP l p → y = p ∨ y ∈ l
 | [], p, y, h => .inl (List.mem_singleton.1 h)
 | x :: l, p, y, h => by
  rw [stepP_cons] at h
  split at h
  ·rcases List.mem_cons.1 h with rfl | h
   ·exact .inr (by simp)
   ·rcases stepP_mem l p y h with h | h
    ·exact .inl h
    ·exact .inr (by simp [h])
  ·split at h
   ·rcases List.mem_cons.1 h with rfl | h
    ·exact .inl rfl
    ·exact .inr (by simp [h])
   ·rcases List.mem_cons.1 h with rfl | h
    ·exact .inl rfl
    ·exact .inr h
theorem stepP_length (l : List Lab) (p : Lab) : (stepP l p).length ≤ l.length + 1 := by
 induction l with
 | nil => exact Nat.le_refl _
 | cons x l ih =>
  rw [stepP_cons]
  split
  ·simp only [List.length_cons]
   omega
  ·split <;> simp
/-! ### label.Of -/
def ofP (l : List Lab) (L : List Lab) : List Lab := L.foldl (fun a p => if nameP (by_ p.f0) = true then stepP a p else a) l
theorem ofP_length : ∀ (L l : List Lab), (ofP l L).length ≤ l.length + L.length
 | [], _ => Nat.le_refl _
 | p :: L, l => by
  have h := ofP_length L (if nameP (by_ p.f0) = true then stepP l p else l)
  have h2 := stepP_length l p
  unfold ofP at h ⊢
  rw [List.foldl_cons, List.length_cons]
  by_cases hn : nameP (by_ p.f0) = true
  ·rw [if_pos hn] at h ⊢
   omega
  ·rw [if_neg hn] at h ⊢
   omega
end Go.Proofs.Ytbkhgldinmabiaa.B
end

section
set_option linter.unusedVariables false
set_option linter.unusedSimpArgs false
namespace Go.Proofs.Ytbkhgldinmabiaa.B
open Go.RowKit Go.Proofs.Ytbkhgldinmabiaa.X Go.Proofs.YtbkhgldinmabiaaW.PrintWords Go.Proofs.YtbkhgldinmabiaaW.PrintLast

theorem ba_eq {a b : ByteArray} : a.toList = b.toList ↔ a = b := by
 rw [toList_by, toList_by]
 exact ⟨by_ext, fun h => by rw [h]⟩
/-! ### are two the same? -/
instance : DecidableEq Lab := fun a b =>
 if h : a.f0 = b.f0 ∧ a.f1 = b.f1 then isTrue (by
  cases a
  cases b
  simp only at h
  rw [h.1, h.2]) else isFalse (fun e => h (by rw [e]; exact ⟨rfl, rfl⟩))
/-! ### with more -/
end Go.Proofs.Ytbkhgldinmabiaa.B
end

section
set_option linter.unusedVariables false
set_option linter.unusedSimpArgs false
namespace Go.Proofs.Ytbkhgldinmabiaa.B
open Go.RowKit Go.Proofs.Ytbkhgldinmabiaa.X Go.Proofs.YtbkhgldinmabiaaW.PrintWords Go.Proofs.YtbkhgldinmabiaaW.PrintLast

/-- how two of one kind stand: one of three, none just for the same, the other way round the contrary; it does not go round -/
structure Stands {α : Type} (c : α → α → Int) : Prop where
 one : ∀ a b, c a b = -1 ∨ c a b = 0 ∨ c a b = 1
 eq : ∀ a b, c a b = 0 ↔ a = b
 flip : ∀ a b, c a b = - c b a
 round : ∀ a b d, c a b = -1 → c b d = -1 → c a d = -1
/-! ### the code's -/
end Go.Proofs.Ytbkhgldinmabiaa.B
end

section
set_option linter.unusedVariables false
set_option linter.unusedSimpArgs false
namespace Go.Proofs.Ytbkhgldinmabiaa.B
open Go.RowKit Go.Proofs.Ytbkhgldinmabiaa.X Go.Proofs.YtbkhgldinmabiaaW.PrintWords Go.Proofs.YtbkhgldinmabiaaW.PrintLast

set_option maxRecDepth 100000 in
theorem labelExamples_ev : Ev (fun k => archivistlaw06_examples.f k) true :=
 Ev.of (k := 80) (fun k => archivistlaw06_examples.mono k) (by kernel_rfl)
end Go.Proofs.Ytbkhgldinmabiaa.B
end

section
set_option linter.unusedVariables false
set_option linter.unusedSimpArgs false
namespace Go.Proofs.Ytbkhgldinmabiaa.B
open Go.RowKit Go.Proofs.Ytbkhgldinmabiaa.X Go.Proofs.YtbkhgldinmabiaaW.PrintWords Go.Proofs.YtbkhgldinmabiaaW.PrintLast

abbrev Tg := S76
theorem rdTag (l : List Tg) (i : Nat) (h : i < l.length) : rd_T76 l (i : Int) = l[i] := by simp [rd_T76, h]
theorem tag_256 : ∀ k : Fin 256, (match archivistlaw06_Tag_tag.f ByteArray.empty ByteArray.empty true (k.val : Int) with | some p => decide (p.1.size ≤ 3 ∧ p.2.size ≤ 3) | none => false) = true := by decide +kernel
theorem tag_f (n v : ByteArray) (own : Bool) (K : Int) (h0 : 0 ≤ K) (h1 : K < 256) : ∃ p : ByteArray × ByteArray, archivistlaw06_Tag_tag.f n v own K = some p ∧ (p = (n, v) ∨ p.1.size ≤ 3 ∧ p.2.size ≤ 3) := by
 cases own with
 | false => exact ⟨(n, v), by unfold archivistlaw06_Tag_tag.f; rfl, .inl rfl⟩
 | true =>
  obtain ⟨m, rfl⟩ := Int.eq_ofNat_of_zero_le h0
  have h := tag_256 ⟨m, by omega⟩
  have e : archivistlaw06_Tag_tag.f n v true (m : Int) = archivistlaw06_Tag_tag.f ByteArray.empty ByteArray.empty true (m : Int) := rfl
  rw [e]
  dsimp only at h
  split at h
  ·rename_i p hp
   exact ⟨p, hp, .inr (of_decide_eq_true h)⟩
  ·cases h
/-- a label that is drawn: one of those that came, or one of the little ones -/
def Drawn1 (l : List Tg) (p : Lab) : Prop := (∃ y ∈ l, p.f0 = y.f0.f0 ∧ p.f1 = y.f0.f1) ∨ p.f0.size ≤ 3 ∧ p.f1.size ≤ 3
theorem tags_loop (l : List Tg) (hg : ∀ y ∈ l, 0 ≤ y.f2 ∧ y.f2 < 256) (m : Nat) (hm : m ≤ 1000) : ∀ (d i : Nat) (acc : List Lab), m - i = d → i ≤ m → acc.length = i → (∀ p ∈ acc, Drawn1 l p) →
  ∃ L : List Lab, L.length ≤ m ∧ (∀ p ∈ L, Drawn1 l p) ∧ Ev (fun k => archivistlaw06_tags.l0 k l (m : Int) acc (i : Int)) L := by
 intro d
 induction d with
 | zero =>
  intro i acc hd hi ha hp
  refine ⟨acc, by omega, hp, Ev.step (fun _ => rfl) ?_⟩
  simp only [archivistlaw06_tags.l0]
  by_cases h : (i : Int) < (l.length : Int)
  ·exact Ev.pos h (Ev.neg (by omega) (Ev.now _))
  ·exact Ev.neg h (Ev.now _)
 | succ d ih =>
  intro i acc hd hi ha hp
  by_cases h : i < l.length
  ·obtain ⟨h0, h1⟩ := hg l[i] (List.getElem_mem h)
   obtain ⟨p, hpf, hps⟩ := tag_f l[i].f0.f0 l[i].f0.f1 l[i].f1 l[i].f2 h0 h1
   obtain ⟨L, hL, hLp, hev⟩ := ih (i + 1) (acc ++ [⟨p.1, p.2⟩]) (by omega) (by omega) (by rw [List.length_append, ha]; rfl) (fun q hq => by
    rcases List.mem_append.1 hq with hq | hq
    ·exact hp q hq
    ·rw [List.mem_singleton.1 hq]
     rcases hps with rfl | hps
     ·exact .inl ⟨l[i], List.getElem_mem h, rfl, rfl⟩
     ·exact .inr hps)
   refine ⟨L, hL, hLp, Ev.step (fun _ => rfl) ?_⟩
   simp only [archivistlaw06_tags.l0]
   rw [rdTag l i h, hpf, w1 i (by omega)]
   exact Ev.pos (by omega) (Ev.pos (by omega) (Ev.pos (by omega) (Ev.one (Ev.pos (by omega) hev))))
  ·refine ⟨acc, by omega, hp, Ev.step (fun _ => rfl) ?_⟩
   simp only [archivistlaw06_tags.l0]
   exact Ev.neg (by omega) (Ev.now _)
theorem tags_ev (l : List Tg) (hg : ∀ y ∈ l, (Lit.int .u8 y.f2).wf = true) (m : Nat) (hm : m ≤ 1000) : ∃ L : List Lab, L.length ≤ m ∧ (∀ p ∈ L, Drawn1 l p) ∧ Ev (fun k => archivistlaw06_tags.f k l (m : Int)) L := by
 unfold archivistlaw06_tags.f
 refine tags_loop l (fun y hy => ?_) m hm m 0 [] rfl (Nat.zero_le _) rfl (fun p h => by simp at h)
 have h := hg y hy
 simp [Lit.wf, IntKind.min, IntKind.max, IntKind.bits, IntKind.signed] at h
 omega
/-! ### what Of tells of a name -/
theorem of_len (L : List Lab) : (ofP [] L).length ≤ L.length := by have := ofP_length L []; simpa using this
end Go.Proofs.Ytbkhgldinmabiaa.B
end

section
set_option linter.unusedVariables false
set_option linter.unusedSimpArgs false
namespace Go.Proofs.Ytbkhgldinmabiaa.B
open Go.RowKit Go.Proofs.Ytbkhgldinmabiaa.X Go.Proofs.YtbkhgldinmabiaaW.PrintWords Go.Proofs.YtbkhgldinmabiaaW.PrintLast

/-- a byte as it is put -/
def oneP (b : UInt8) : List UInt8 :=
 if b.toNat = 34 ∨ b.toNat = 92 then [92, b] else if b.toNat = 10 then [92, 110] else if b.toNat = 9 then [92, 116]
 else if b.toNat < 32 ∨ 126 < b.toNat then [92, 120, hexd.getD (b.toNat / 16) 0, hexd.getD (b.toNat % 16) 0] else [b]
theorem oneP_len (b : UInt8) : 1 ≤ (oneP b).length ∧ (oneP b).length ≤ 4 := by
 have h : ∀ n : Fin 256, 1 ≤ (oneP (UInt8.ofNat n.val)).length ∧ (oneP (UInt8.ofNat n.val)).length ≤ 4 := by decide +kernel
 have := h ⟨b.toNat, b.toNat_lt⟩
 simpa using this
theorem escR_more {l : List UInt8} {b : UInt8} {n : Nat} (r : List UInt8) (h : escP l = some (b, n)) : escP (l ++ r) = some (b, n) := by
 match l, h with
 | [], h => simp [escP] at h
 | [c], h =>
  simp only [escP] at h
  simp only [List.cons_append, List.nil_append, escP]
  repeat' split at h
  all_goals first
   | (cases h; done)
   | simp_all
 | [c, d], h =>
  simp only [escP] at h
  simp only [List.cons_append, List.nil_append, escP]
  repeat' split at h
  all_goals first
   | (cases h; done)
   | simp_all
 | c :: d :: e :: l, h => exact h
theorem decR_more {l : List UInt8} {b : UInt8} {n : Nat} (r : List UInt8) (h : decP l = some (b, n)) : decP (l ++ r) = some (b, n) := by
 match l, h with
 | [], h => simp [decP] at h
 | c :: l, h =>
  simp only [List.cons_append, decP] at h ⊢
  by_cases c1 : c.toNat = 92
  ·rw [if_pos c1] at h ⊢
   obtain ⟨⟨b2, n2⟩, h2, h3⟩ := Option.map_eq_some_iff.1 h
   rw [escR_more r h2]
   exact congrArg some h3
  ·rw [if_neg c1] at h ⊢
   exact h
/-- what a byte is put is that byte -/
theorem dec_one (b : UInt8) (r : List UInt8) : decP (oneP b ++ r) = some (b, (oneP b).length) := by
 refine decR_more r ?_
 have h : ∀ n : Fin 256, decP (oneP (UInt8.ofNat n.val)) = some (UInt8.ofNat n.val, (oneP (UInt8.ofNat n.val)).length) := by decide +kernel
 have := h ⟨b.toNat, b.toNat_lt⟩
 simpa using this
theorem hex_back (h g : UInt8) (h0 : 0 ≤ hexv h) (g0 : 0 ≤ hexv g) : hexd.getD (hexv h).toNat 0 = h ∧ hexd.getD (hexv g).toNat 0 = g := by
 have hh : ∀ n : Fin 256, 0 ≤ hexv (UInt8.ofNat n.val) → hexd.getD (hexv (UInt8.ofNat n.val)).toNat 0 = UInt8.ofNat n.val := by decide +kernel
 have h1 := hh ⟨h.toNat, h.toNat_lt⟩
 have h2 := hh ⟨g.toNat, g.toNat_lt⟩
 simp only [UInt8.ofNat_toNat] at h1 h2
 exact ⟨h1 h0, h2 g0⟩
/-- what a text begins with is one byte as it is put -/
theorem one_dec {l : List UInt8} {b : UInt8} {n : Nat} (h : decP l = some (b, n)) (hq : l.head? ≠ some 34) : l = oneP b ++ l.drop n ∧ n = (oneP b).length := by
 match l, h with
 | [], h => simp [decP] at h
 | c :: l, h =>
  have hq2 : c.toNat ≠ 34 := fun e => hq (by simp; exact UInt8.toNat_inj.1 e)
  simp only [decP] at h
  by_cases c1 : c.toNat = 92
  ·rw [if_pos c1] at h
   have hc : c = 92 := UInt8.toNat_inj.1 c1
   obtain ⟨⟨b2, n2⟩, h2, h3⟩ := Option.map_eq_some_iff.1 h
   simp only [Prod.mk.injEq] at h3
   obtain ⟨rfl, rfl⟩ := h3
   match l, h2 with
   | [], h2 => simp [escP] at h2
   | d :: l, h2 =>
    simp only [escP] at h2
    by_cases d1 : d.toNat = 34
    ·rw [if_pos d1] at h2
     simp only [Option.some.injEq, Prod.mk.injEq] at h2
     obtain ⟨rfl, rfl⟩ := h2
     have : oneP d = [92, d] := by simp [oneP, d1]
     rw [this, hc]
     exact ⟨rfl, rfl⟩
    rw [if_neg d1] at h2
    by_cases d2 : d.toNat = 92
    ·rw [if_pos d2] at h2
     simp only [Option.some.injEq, Prod.mk.injEq] at h2
     obtain ⟨rfl, rfl⟩ := h2
     have : oneP d = [92, d] := by simp [oneP, d2]
     rw [this, hc]
     exact ⟨rfl, rfl⟩
    rw [if_neg d2] at h2
    by_cases d3 : d.toNat = 110
    ·rw [if_pos d3] at h2
     simp only [Option.some.injEq, Prod.mk.injEq] at h2
     obtain ⟨rfl, rfl⟩ := h2
     have : oneP 10 = [92, 110] := by decide
     rw [this, hc, show d = 110 from UInt8.toNat_inj.1 d3]
     exact ⟨rfl, rfl⟩
    rw [if_neg d3] at h2
    by_cases d4 : d.toNat = 116
    ·rw [if_pos d4] at h2
     simp only [Option.some.injEq, Prod.mk.injEq] at h2
     obtain ⟨rfl, rfl⟩ := h2
     have : oneP 9 = [92, 116] := by decide
     rw [this, hc, show d = 116 from UInt8.toNat_inj.1 d4]
     exact ⟨rfl, rfl⟩
    rw [if_neg d4] at h2
    match l, h2 with
    | [], h2 => simp at h2
    | [_], h2 => simp at h2
    | x :: y :: l, h2 =>
     simp only at h2
     split at h2
     ·rename_i hh
      obtain ⟨k1, k2, k3, k4, k5, k6⟩ := hh
      simp only [Option.some.injEq, Prod.mk.injEq] at h2
      obtain ⟨rfl, rfl⟩ := h2
      have hx := hexv_range x
      have hy := hexv_range y
      obtain ⟨ex, ey⟩ := hex_back x y k2 k3
      obtain ⟨m, hm⟩ : ∃ m : Nat, (hexv x * 16 + hexv y).toNat = m := ⟨_, rfl⟩
      have hmb : m < 256 := by omega
      have e0 : (UInt8.ofNat m).toNat = m := by simp; omega
      have : oneP (UInt8.ofNat m) = [92, 120, x, y] := by
       unfold oneP
       rw [e0, if_neg (by omega), if_neg (by omega), if_neg (by omega), if_pos (by omega), show m / 16 = (hexv x).toNat by omega, show m % 16 = (hexv y).toNat by omega, ex, ey]
      rw [hm, this, hc, show d = 120 from UInt8.toNat_inj.1 k1]
      exact ⟨rfl, rfl⟩
     ·cases h2
  ·rw [if_neg c1] at h
   split at h
   ·cases h
   ·rename_i hr
    simp only [Option.some.injEq, Prod.mk.injEq] at h
    obtain ⟨rfl, rfl⟩ := h
    have : oneP c = [c] := by
     unfold oneP
     rw [if_neg (by omega), if_neg (by omega), if_neg (by omega), if_neg (by omega)]
    rw [this]
    exact ⟨rfl, rfl⟩
/-! ### small numbers -/
/-- a length that is small enough (a word of its own, so that no tactic unfolds the number) -/
def SmallN (n : Nat) : Prop := n < 140737488355328
theorem SmallN.of {n : Nat} (h : n < 140737488355328) : SmallN n := h
theorem SmallN.add {i : Nat} (h : SmallN i) (n : Nat) (hn : n ≤ 4) : wrap64 ((i : Int) + (n : Int)) = ((i + n : Nat) : Int) := by
 have h2 : (i : Int) < 140737488355328 := Int.ofNat_lt.2 h
 unfold wrap64
 omega
theorem SmallN.up {i : Nat} (h : SmallN i) {acc : List UInt8} (ha : acc.length ≤ i) : (up_ acc).length < 140737488355328 := by
 rw [up_, List.length_map]
 exact Nat.lt_of_le_of_lt ha h
theorem SmallN.lt {i n : Nat} (hs : SmallN n) (h : i < n) : SmallN i := Nat.lt_trans h hs
theorem SmallN.out {n : Nat} (hs : SmallN n) : n < 140737488355328 := hs
attribute [irreducible] SmallN
end Go.Proofs.Ytbkhgldinmabiaa.B
end

section
set_option linter.unusedVariables false
set_option linter.unusedSimpArgs false
namespace Go.Proofs.Ytbkhgldinmabiaa.B
open Go.RowKit Go.Proofs.Ytbkhgldinmabiaa.X Go.Proofs.YtbkhgldinmabiaaW.PrintWords Go.Proofs.YtbkhgldinmabiaaW.PrintLast

/-- a text in quotes -/
def putP (t : List UInt8) : List UInt8 := 34 :: (t.flatMap oneP ++ [34])
theorem flat_len : ∀ t : List UInt8, t.length ≤ (t.flatMap oneP).length ∧ (t.flatMap oneP).length ≤ 4 * t.length
 | [] => by simp
 | b :: t => by
  have h := flat_len t
  have h2 := oneP_len b
  rw [List.flatMap_cons, List.length_append, List.length_cons]
  omega
theorem putP_len (t : List UInt8) : (putP t).length = (t.flatMap oneP).length + 2 := by simp [putP]
/-! ### something behind -/
theorem getP_len' {t x : List UInt8} {n : Nat} (h : getP t = some (x, n)) : 2 ≤ n ∧ n ≤ t.length := by
 match t, h with
 | [], h => simp [getP] at h
 | c :: l, h =>
  simp only [getP] at h
  split at h
  ·obtain ⟨⟨y, m⟩, h1, h2⟩ := Option.map_eq_some_iff.1 h
   have := unqP_len _ l y m rfl h1
   simp at h2
   obtain ⟨_, rfl⟩ := h2
   simp
   omega
  ·simp at h
/-! ### the program's Put -/
end Go.Proofs.Ytbkhgldinmabiaa.B
end

section
set_option linter.unusedVariables false
set_option linter.unusedSimpArgs false
namespace Go.Proofs.Ytbkhgldinmabiaa.B
open Go.RowKit Go.Proofs.Ytbkhgldinmabiaa.X Go.Proofs.YtbkhgldinmabiaaW.PrintWords Go.Proofs.YtbkhgldinmabiaaW.PrintLast

def pfxP (o t : List UInt8) : Bool := t.take o.length == o
theorem pfx_f (t op : ByteArray) : strings_HasPrefix.f t op = some (pfxP (by_ op) (by_ t)) := by
 have h1 := by_length t
 have h2 := by_length op
 unfold strings_HasPrefix.f stringslite_HasPrefix.f pfxP
 by_cases h : (t.size : Int) ≥ (op.size : Int)
 ·rw [if_pos h, if_pos (by omega), if_pos (by omega), Option.bind_some, toList_by, toList_by, by_extract, List.drop_zero, h2]
 ·rw [if_neg h, Option.bind_some]
  congr 1
  symm
  rw [beq_eq_false_iff_ne]
  intro e
  have := congrArg List.length e
  rw [List.length_take] at this
  omega
end Go.Proofs.Ytbkhgldinmabiaa.B
end

section
set_option linter.unusedVariables false
set_option linter.unusedSimpArgs false
namespace Go.Proofs.Ytbkhgldinmabiaa.B
open Go.RowKit Go.Proofs.Ytbkhgldinmabiaa.X Go.Proofs.YtbkhgldinmabiaaW.PrintWords Go.Proofs.YtbkhgldinmabiaaW.PrintLast

/-- does a text begin with this one, which is not empty? -/
def sepC (t o : List UInt8) : Bool := !(o == []) && pfxP o t
/-- cut at the first of some -/
def cutP (L : List (List UInt8)) : List UInt8 → List UInt8 × List UInt8 × List UInt8
 | [] => ([], [], [])
 | c :: t => match L.find? (sepC (c :: t)) with
  | some o => ([], o, (c :: t).drop o.length)
  | none => (c :: (cutP L t).1, (cutP L t).2.1, (cutP L t).2.2)
def tri (r : List UInt8 × List UInt8 × List UInt8) : ByteArray × ByteArray × ByteArray := (⟨r.1.toArray⟩, ⟨r.2.1.toArray⟩, ⟨r.2.2.toArray⟩)
theorem mkB (t : ByteArray) : (⟨(by_ t).toArray⟩ : ByteArray) = t := by apply by_ext; rw [by_mk]
theorem pfxP_len {o t : List UInt8} (h : pfxP o t = true) : o.length ≤ t.length := by
 simp only [pfxP, beq_iff_eq] at h
 have := congrArg List.length h
 rw [List.length_take] at this
 omega
theorem cut_scan (s : ByteArray) (hs : s.size ≤ 9223372036854775807) (L : List ByteArray) (hL : L.length ≤ 9223372036854775807) (a : Nat) (ha : a < s.size) (R : ByteArray × ByteArray × ByteArray)
  (H : Ev (fun k => match (L.map by_).find? (sepC ((by_ s).drop a)) with | some o => some (tri ((by_ s).take a, o, (by_ s).drop (a + o.length))) | none => quote_Cut.l0 k s L (s.size : Int) ((a + 1 : Nat) : Int)) R) : ∀ (d j : Nat), L.length - j = d → j ≤ L.length →
  ((L.take j).map by_).find? (sepC ((by_ s).drop a)) = none →
  Ev (fun k => quote_Cut.l1 k s L (a : Int) (s.size : Int) (a : Int) L (L.length : Int) (j : Int)) R := by
 intro d
 induction d with
 | zero =>
  intro j hd hj hno
  have hjl : j = L.length := by omega
  subst hjl
  rw [List.take_length] at hno
  rw [hno] at H
  refine Ev.step (fun _ => rfl) ?_
  simp only [quote_Cut.l1]
  rw [w1 a (by omega)]
  exact Ev.neg (by omega) H
 | succ d ih =>
  intro j hd hj hno
  have hlt : j < L.length := by omega
  have hb := by_length s
  obtain ⟨x, hx⟩ : ∃ x, L[j] = x := ⟨_, rfl⟩
  have hbx := by_length x
  have htk : L.take (j + 1) = L.take j ++ [x] := by rw [← hx, List.take_succ_eq_append_getElem hlt]
  have hdr : ((by_ s).drop a).length = s.size - a := by rw [List.length_drop, hb]
  have go : sepC ((by_ s).drop a) (by_ x) = false → Ev (fun k => quote_Cut.l1 k s L (a : Int) (s.size : Int) (a : Int) L (L.length : Int) ((j + 1 : Nat) : Int)) R := fun h => by
   refine ih (j + 1) (by omega) (by omega) ?_
   rw [htk, List.map_append, List.find?_append, hno, List.map_singleton, List.find?_singleton, h]
   rfl
  refine Ev.step (fun _ => rfl) ?_
  simp only [quote_Cut.l1]
  rw [w1 j (by omega), rdS L j hlt, hx]
  refine Ev.pos (by omega) (Ev.pos (by omega) (Ev.pos (by omega) ?_))
  by_cases h0 : x.toList = []
  ·refine Ev.pos h0 (go ?_)
   rw [toList_by] at h0
   simp [sepC, h0]
  ·refine Ev.neg h0 (Ev.pos (by omega) (Ev.pos (by omega) ?_))
   rw [toList_by] at h0
   have e0 : by_ (s.extract (a : Int).toNat s.size) = (by_ s).drop a := by rw [by_extract, Int.toNat_natCast, List.take_of_length_le (Nat.le_of_eq hb)]
   rw [pfx_f, e0]
   refine Ev.one ?_
   by_cases hp : pfxP (by_ x) ((by_ s).drop a) = true
   ·have hl := pfxP_len hp
    rw [hdr, hbx] at hl
    have hsz : a + x.size ≤ s.size := by omega
    have e1 : wrap64 ((a : Int) + (x.size : Int)) = ((a + x.size : Nat) : Int) := by rw [wrap_in] <;> omega
    have hf : (L.map by_).find? (sepC ((by_ s).drop a)) = some (by_ x) := by
     rw [← List.take_append_drop (j + 1) L, htk, List.map_append, List.map_append, List.find?_append, List.find?_append, hno, List.map_singleton, List.find?_singleton]
     have : sepC ((by_ s).drop a) (by_ x) = true := by
      have h9 : (by_ x == []) = false := by rw [beq_eq_false_iff_ne]; exact h0
      rw [sepC, h9, hp]
      rfl
     rw [if_pos this]
     rfl
    rw [hf] at H
    obtain ⟨K, HK⟩ := H
    have hR := Option.some.inj (HK K (Nat.le_refl _))
    rw [e1]
    clear e1 hl
    refine Ev.pos hp (Ev.pos (Int.natCast_nonneg _) (Ev.pos (Int.ofNat_le.2 hsz) (Ev.ret ?_)))
    rw [← hR, Int.toNat_natCast, Int.toNat_natCast, tri]
    have t1 : s.extract 0 a = ⟨((by_ s).take a).toArray⟩ := by apply by_ext; rw [by_extract, List.drop_zero]; exact (by_mk _).symm
    have t2 : s.extract (a + x.size) s.size = ⟨((by_ s).drop (a + (by_ x).length)).toArray⟩ := by apply by_ext; rw [by_extract, List.take_of_length_le (Nat.le_of_eq hb), hbx]; exact (by_mk _).symm
    rw [t1, t2, mkB]
   ·refine Ev.neg hp (go ?_)
    rw [Bool.not_eq_true] at hp
    rw [sepC, hp, Bool.and_false]
def cutI (s : ByteArray) (L : List ByteArray) (a : Nat) : ByteArray × ByteArray × ByteArray :=
 tri ((by_ s).take a ++ (cutP (L.map by_) ((by_ s).drop a)).1, (cutP (L.map by_) ((by_ s).drop a)).2.1, (cutP (L.map by_) ((by_ s).drop a)).2.2)
theorem cut_loop (s : ByteArray) (hs : s.size ≤ 9223372036854775807) (L : List ByteArray) (hL : L.length ≤ 9223372036854775807) : ∀ (d a : Nat), s.size - a = d → a ≤ s.size →
  Ev (fun k => quote_Cut.l0 k s L (s.size : Int) (a : Int)) (cutI s L a) := by
 intro d
 induction d with
 | zero =>
  intro a hd ha
  have hb := by_length s
  refine Ev.step (fun _ => rfl) ?_
  simp only [quote_Cut.l0]
  refine Ev.neg (by omega) (Ev.ret ?_)
  unfold cutI
  rw [List.drop_of_length_le (by omega), List.take_of_length_le (by omega)]
  simp only [cutP, tri, List.append_nil, mkB]
 | succ d ih =>
  intro a hd ha
  have hb := by_length s
  have hlt : a < (by_ s).length := by omega
  refine Ev.step (fun _ => rfl) ?_
  simp only [quote_Cut.l0]
  refine Ev.pos (by omega) (cut_scan s hs L hL a (by omega) _ ?_ L.length 0 rfl (Nat.zero_le _) rfl)
  unfold cutI
  obtain ⟨c, hc⟩ : ∃ c, (by_ s)[a] = c := ⟨_, rfl⟩
  have hdr := List.drop_eq_getElem_cons hlt
  have htk := List.take_succ_eq_append_getElem hlt
  rw [hc] at hdr htk
  rw [hdr, cutP]
  cases hf : (L.map by_).find? (sepC (c :: (by_ s).drop (a + 1))) with
  | some o =>
   refine Ev.ret ?_
   dsimp only
   rw [← hdr, List.append_nil, List.drop_drop]
  | none =>
   have h := ih (a + 1) (by omega) (by omega)
   unfold cutI at h
   rw [htk, List.append_assoc] at h
   exact h
theorem cut_ev (s : ByteArray) (hs : s.size ≤ 9223372036854775807) (L : List ByteArray) (hL : L.length ≤ 9223372036854775807) : Ev (fun k => quote_Cut.f k s L) (tri (cutP (L.map by_) (by_ s))) := by
 have h := cut_loop s hs L hL s.size 0 rfl (Nat.zero_le _)
 unfold cutI at h
 rw [List.take_zero, List.drop_zero, List.nil_append] at h
 exact h
/-! ### what a cut is -/
/-! ### joined -/
def joinP (sep : List UInt8) (l : List (List UInt8)) : List UInt8 := Go.Lib.join l sep
theorem joinP_nil (sep : List UInt8) : joinP sep [] = [] := rfl
theorem joinP_one (sep x : List UInt8) : joinP sep [x] = x := Go.Lib.join_one x sep
theorem joinP_cons (sep x y : List UInt8) (l : List (List UInt8)) : joinP sep (x :: y :: l) = x ++ sep ++ joinP sep (y :: l) := by
 unfold joinP
 rw [Go.Lib.join_cons, Go.Lib.join_cons]
 simp [Go.Lib.joinTail]
end Go.Proofs.Ytbkhgldinmabiaa.B
end

section
set_option linter.unusedVariables false
set_option linter.unusedSimpArgs false
namespace Go.Proofs.Ytbkhgldinmabiaa.B
open Go.RowKit Go.Proofs.Ytbkhgldinmabiaa.X Go.Proofs.YtbkhgldinmabiaaW.PrintWords Go.Proofs.YtbkhgldinmabiaaW.PrintLast

/-! ### Right -/
def okL (p : Lab) : Bool := nameP (by_ p.f0) && decide (p.f1.size ≤ 256)
def stepsB : Option Lab → List Lab → Bool
 | _, [] => true
 | none, p :: r => okL p && stepsB (some p) r
 | some q, p :: r => okL p && (decide (nl q.f0 p.f0) && stepsB (some p) r)
def rightL (l : List Lab) : Bool := stepsB none l && decide (l.length ≤ 16)
def prevL (l : List Lab) (i : Nat) : Option Lab := if i = 0 then none else l[i - 1]?
theorem right_loop (l : List Lab) (hl : l.length ≤ 1000000) : ∀ d i, l.length - i = d → i ≤ l.length →
  Ev (fun k => label_Right.l0 k l l (l.length : Int) (i : Int)) (stepsB (prevL l i) (l.drop i) && decide (l.length ≤ 16)) := by
 intro d
 induction d with
 | zero =>
  intro i hd hi
  rw [List.drop_of_length_le (by omega)]
  refine Ev.step (fun _ => rfl) ?_
  simp only [label_Right.l0]
  refine Ev.neg (by omega) (Ev.ret ?_)
  have : stepsB (prevL l i) [] = true := by cases prevL l i <;> rfl
  rw [this, Bool.true_and, decide_eq_decide]
  omega
 | succ d ih =>
  intro i hd hi
  have h : i < l.length := by omega
  have hih := ih (i + 1) (by omega) (by omega)
  rw [List.drop_eq_getElem_cons h]
  have hp : prevL l (i + 1) = some l[i] := by
   unfold prevL
   rw [if_neg (by omega), Nat.add_sub_cancel, List.getElem?_eq_getElem h]
  rw [hp] at hih
  have hr := rdLab l i h
  refine Ev.step (fun _ => rfl) ?_
  simp only [label_Right.l0]
  refine Ev.pos (by omega) (Ev.pos (by omega) (Ev.pos (by omega) ?_))
  rw [hr]
  refine Ev.bind (name_ev _) ?_
  have bad : okL l[i] = false → (false = (stepsB (prevL l i) (l[i] :: l.drop (i + 1)) && decide (l.length ≤ 16))) := fun h0 => by
   have : stepsB (prevL l i) (l[i] :: l.drop (i + 1)) = false := by cases prevL l i <;> simp [stepsB, h0]
   rw [this]
   rfl
  cases hn : nameP (by_ l[i].f0) with
  | false => exact Ev.neg (by simp) (Ev.ret (bad (by unfold okL; rw [hn]; rfl)))
  | true =>
   refine Ev.pos rfl ?_
   by_cases hz : ((l[i].f1).size : Int) > 256
   ·exact Ev.pos hz (Ev.ret (bad (by unfold okL; rw [hn, decide_eq_false (by omega)]; rfl)))
   ·refine Ev.neg hz ?_
    have hok : okL l[i] = true := by unfold okL; rw [hn, decide_eq_true (by omega)]; rfl
    rcases Nat.eq_zero_or_pos i with rfl | hpos
    ·refine Ev.neg (by omega) ?_
     have e0 : prevL l 0 = none := rfl
     rw [e0]
     simp only [stepsB, hok, Bool.true_and]
     rw [w1 0 (by omega)]
     exact hih
    ·have hw : wrap64 ((i : Int) - 1) = ((i - 1 : Nat) : Int) := by rw [wrap_in (by omega) (by omega)]; omega
     have hr2 := rdLab l (i - 1) (by omega)
     have e0 : prevL l i = some l[i - 1] := by
      unfold prevL
      rw [if_neg (by omega), List.getElem?_eq_getElem (by omega)]
     obtain ⟨r, hnf, hn1, hn2⟩ := names_f l[i - 1].f0 l[i - 1].f1 l[i].f0 l[i].f1
     refine Ev.pos (by omega) ?_
     rw [hw, hr2, hnf]
     refine Ev.pos (by omega) (Ev.pos (by omega) (Ev.one ?_))
     rw [e0]
     simp only [stepsB, hok, Bool.true_and]
     by_cases hr0 : r ≥ 0
     ·refine Ev.pos hr0 (Ev.ret ?_)
      rw [decide_eq_false (fun h => by have := hn1.2 h; omega)]
      rfl
     ·refine Ev.neg hr0 ?_
      rw [decide_eq_true (hn1.1 (by omega)), w1 i (by omega), Bool.true_and]
      exact hih
theorem right_ev (l : List Lab) (hl : l.length ≤ 1000000) : Ev (fun k => label_Right.f k l) (rightL l) := by
 unfold label_Right.f rightL
 exact right_loop l hl l.length 0 (by omega) (by omega)

/-! ### Parse -/
def eqP : List UInt8 → Option (List UInt8 × List UInt8)
 | [] => none
 | c :: t => if c = 61 then some ([], t) else (eqP t).map fun x => (c :: x.1, x.2)
theorem cut_eqP : ∀ r : List UInt8, cutP [[61]] r = match eqP r with | none => (r, [], []) | some (a, b) => (a, [61], b)
 | [] => rfl
 | c :: t => by
  have ih := cut_eqP t
  have hs : sepC (c :: t) [61] = (c == 61) := by
   simp [sepC, pfxP]
  unfold cutP eqP
  by_cases h : c = 61
  ·subst h
   have : List.find? (sepC (61 :: t)) [[61]] = some [61] := by simp [List.find?, hs]
   rw [this]
   rfl
  ·have hb : (c == 61) = false := beq_eq_false_iff_ne.2 h
   have : List.find? (sepC (c :: t)) [[61]] = none := by simp [List.find?, hs, hb]
   rw [this, if_neg h, ih]
   cases eqP t with
   | none => rfl
   | some x => rfl
theorem eqP_some : ∀ {r a b : List UInt8}, eqP r = some (a, b) → r = a ++ 61 :: b ∧ 61 ∉ a
 | [], _, _, h => by simp [eqP] at h
 | c :: t, a, b, h => by
  unfold eqP at h
  by_cases hc : c = 61
  ·rw [if_pos hc] at h
   obtain ⟨rfl, rfl⟩ := Prod.mk.inj (Option.some.inj h)
   exact ⟨by rw [hc]; rfl, by simp⟩
  ·rw [if_neg hc] at h
   cases ht : eqP t with
   | none => rw [ht] at h; cases h
   | some x =>
    obtain ⟨y, z⟩ := x
    rw [ht] at h
    obtain ⟨rfl, rfl⟩ := Prod.mk.inj (Option.some.inj h)
    obtain ⟨h1, h2⟩ := eqP_some ht
    exact ⟨by rw [h1]; rfl, fun hm => by
     rcases List.mem_cons.1 hm with e | e
     ·exact hc e.symm
     ·exact h2 e⟩
theorem eqP_none : ∀ {r : List UInt8}, eqP r = none → 61 ∉ r
 | [], _ => by simp
 | c :: t, h => by
  unfold eqP at h
  by_cases hc : c = 61
  ·rw [if_pos hc] at h
   cases h
  ·rw [if_neg hc] at h
   cases ht : eqP t with
   | none =>
    intro hm
    rcases List.mem_cons.1 hm with e | e
    ·exact hc e.symm
    ·exact eqP_none ht e
   | some x => rw [ht] at h; cases h
def mkL (a v : List UInt8) : Lab := ⟨⟨a.toArray⟩, ⟨v.toArray⟩⟩
/-- the labels up to the closing brace, and what stands behind it -/
def fieldsP : Nat → List Lab → List UInt8 → Option (List Lab × List UInt8)
 | 0, _, _ => none
 | d + 1, acc, r => match eqP r with
  | none => none
  | some (a, b) => match getP b with
   | none => none
   | some (v, n) => match b.drop n with
    | [] => none
    | c :: x => if c = 125 then some (acc ++ [mkL a v], x) else if c = 44 then fieldsP d (acc ++ [mkL a v]) x else none
def endL (z : Nat) (o : Option (List Lab × List UInt8)) : List Lab × Int × Bool := match o with
 | none => ([], 0, false)
 | some (l, x) => if rightL l = true then (l, (z : Int) - (x.length : Int), true) else ([], 0, false)
theorem drop_cons_get {b : List UInt8} {n : Nat} {c : UInt8} {x : List UInt8} (h : b.drop n = c :: x) : n < b.length ∧ b[n]? = some c ∧ b.drop (n + 1) = x := by
 have hn : n < b.length := by
  rcases Nat.lt_or_ge n b.length with h1 | h1
  ·exact h1
  ·rw [List.drop_of_length_le h1] at h
   cases h
 rw [List.drop_eq_getElem_cons hn] at h
 injection h with h1 h2
 exact ⟨hn, by rw [List.getElem?_eq_getElem hn, h1], h2⟩
theorem parse_loop (s : ByteArray) (hs : s.size < 140737488355328) : ∀ (d : Nat) (acc : List Lab) (rest : ByteArray), acc.length + d = 17 → rest.size ≤ s.size →
  Ev (fun k => label_Parse.l0 k s acc true rest) (endL s.size (fieldsP d acc (by_ rest))) := by
 intro d
 induction d with
 | zero =>
  intro acc rest hd hz
  refine Ev.step (fun _ => rfl) ?_
  simp only [label_Parse.l0]
  refine Ev.pos trivial (Ev.step (fun _ => rfl) ?_)
  simp only [label_Parse.j1]
  exact Ev.neg (by rw [decide_eq_true_eq]; omega) (Ev.now _)
 | succ d ih =>
  intro acc rest hd hz
  have hb := by_length rest
  refine Ev.step (fun _ => rfl) ?_
  simp only [label_Parse.l0]
  refine Ev.pos trivial (Ev.step (fun _ => rfl) ?_)
  simp only [label_Parse.j1]
  refine Ev.pos (by rw [decide_eq_true_eq]; omega) ?_
  have hc := cut_ev rest (by omega) [(⟨#[61]⟩ : ByteArray)] (by simp)
  have el : ([(⟨#[61]⟩ : ByteArray)] : List ByteArray).map by_ = [[61]] := rfl
  rw [el, cut_eqP] at hc
  cases he : eqP (by_ rest) with
  | none =>
   have hF : fieldsP (d + 1) acc (by_ rest) = none := by simp only [fieldsP, he]
   rw [he] at hc
   rw [hF]
   refine Ev.bind hc ?_
   refine Ev.bind (get_ev _ (by show (⟨#[]⟩ : ByteArray).size < _; exact (by decide))) ?_
   refine Ev.pos (by show (⟨([] : List UInt8).toArray⟩ : ByteArray).toList = []; rw [toList_by, by_mk]) (Ev.step (fun _ => rfl) ?_)
   simp only [label_Parse.j2]
   exact Ev.pos trivial (Ev.now _)
  | some ab =>
   obtain ⟨a, b⟩ := ab
   rw [he] at hc
   refine Ev.bind hc ?_
   obtain ⟨hr, hna⟩ := eqP_some he
   have hlen : (by_ rest).length = a.length + (b.length + 1) := by rw [hr]; simp
   have hbz : (⟨b.toArray⟩ : ByteArray).size = b.length := by rw [← by_length, by_mk]
   have hgv := get_ev (⟨b.toArray⟩ : ByteArray) (by omega)
   rw [by_mk] at hgv
   refine Ev.bind hgv ?_
   refine Ev.neg (by show ¬ (⟨([61] : List UInt8).toArray⟩ : ByteArray).toList = []; rw [toList_by, by_mk]; simp) ?_
   have bad : ∀ x9 x10, Ev (fun k => label_Parse.j2 k s acc (tri (a, [61], b)).1 (tri (a, [61], b)).2.2 x9 x10 true) (([] : List Lab), (0 : Int), false) := fun x9 x10 => by
    refine Ev.step (fun _ => rfl) ?_
    simp only [label_Parse.j2]
    exact Ev.pos trivial (Ev.now _)
   cases hg : getP b with
   | none =>
    have hF : fieldsP (d + 1) acc (by_ rest) = none := by simp only [fieldsP, he, hg]
    rw [hF]
    exact Ev.neg (by simp [getI]) (bad _ _)
   | some vn =>
    obtain ⟨v, n⟩ := vn
    have hgl := getP_len' hg
    refine Ev.pos rfl ?_
    cases hdr : b.drop n with
    | nil =>
     have : b.length ≤ n := by
      rcases Nat.lt_or_ge n b.length with h | h
      ·rw [List.drop_eq_getElem_cons h] at hdr; cases hdr
      ·exact h
     have e : decide ((getI (some (v, n))).2.1 ≥ ((tri (a, [61], b)).2.2.size : Int)) = true := by
      rw [decide_eq_true_eq]
      show (n : Int) ≥ ((⟨b.toArray⟩ : ByteArray).size : Int)
      omega
     have hF : fieldsP (d + 1) acc (by_ rest) = none := by simp only [fieldsP, he, hg, hdr]
     rw [e, hF]
     exact bad _ _
    | cons c x =>
     obtain ⟨hn, hcn, hx⟩ := drop_cons_get hdr
     have e : decide ((getI (some (v, n))).2.1 ≥ ((tri (a, [61], b)).2.2.size : Int)) = false := by
      rw [decide_eq_false_iff_not]
      show ¬ (n : Int) ≥ ((⟨b.toArray⟩ : ByteArray).size : Int)
      omega
     rw [e]
     refine Ev.step (fun _ => rfl) ?_
     simp only [label_Parse.j2]
     have hw : wrap64 ((n : Int) + 1) = ((n + 1 : Nat) : Int) := w1 n (by omega)
     have hbt : bt (⟨b.toArray⟩ : ByteArray) (n : Int) = (c.toNat : Int) := bt_at_ _ n c (by rw [by_mk]; exact hcn)
     refine Ev.neg (by simp) (Ev.pos (by omega) (Ev.one ?_))
     show Ev (fun k => if 0 ≤ (n : Int) then (if (n : Int) < ((⟨b.toArray⟩ : ByteArray).size : Int) then (if 0 ≤ wrap64 ((n : Int) + 1) then (if wrap64 ((n : Int) + 1) ≤ ((⟨b.toArray⟩ : ByteArray).size : Int) then (if bt (⟨b.toArray⟩ : ByteArray) (n : Int) = 125 then ((label_Right.f k (acc ++ [mkL a v])).bind fun t255 => (if t255 = true then (some (acc ++ [mkL a v], wrap64 ((s.size : Int) - (((⟨b.toArray⟩ : ByteArray).extract (wrap64 ((n : Int) + 1)).toNat (⟨b.toArray⟩ : ByteArray).size).size : Int)), true)) else (some ([], 0, false)))) else (label_Parse.l0 k s (acc ++ [mkL a v]) (bt (⟨b.toArray⟩ : ByteArray) (n : Int) == 44) ((⟨b.toArray⟩ : ByteArray).extract (wrap64 ((n : Int) + 1)).toNat (⟨b.toArray⟩ : ByteArray).size))) else none) else none) else none) else none) _
     rw [hw, hbt, Int.toNat_natCast]
     have hex : by_ ((⟨b.toArray⟩ : ByteArray).extract (n + 1) (⟨b.toArray⟩ : ByteArray).size) = x := by
      rw [by_extract, by_mk, hbz, List.take_of_length_le (Nat.le_refl _), hx]
     generalize hE : (⟨b.toArray⟩ : ByteArray).extract (n + 1) (⟨b.toArray⟩ : ByteArray).size = E at *
     have hEz : E.size = x.length := by rw [← by_length, hex]
     have hxl : x.length + (n + 1) = b.length := by rw [← hx, List.length_drop]; omega
     refine Ev.pos (by omega) (Ev.pos (by omega) (Ev.pos (by omega) (Ev.pos (by omega) ?_)))
     have hal : (acc ++ [mkL a v]).length = acc.length + 1 := by simp
     by_cases h1 : (c.toNat : Int) = 125
     ·have hc125 : c = 125 := UInt8.toNat_inj.1 (by show c.toNat = 125; omega)
      have hF : fieldsP (d + 1) acc (by_ rest) = some (acc ++ [mkL a v], x) := by simp only [fieldsP, he, hg, hdr]; rw [if_pos hc125]
      rw [hF]
      refine Ev.pos h1 (Ev.bind (right_ev _ (by omega)) ?_)
      unfold endL
      simp only []
      cases hR : rightL (acc ++ [mkL a v]) with
      | true =>
       refine Ev.pos rfl (Ev.ret ?_)
       rw [if_pos rfl, hEz, wrap_in (by omega) (by omega)]
      | false =>
       refine Ev.neg (by simp) (Ev.ret ?_)
       rw [if_neg (by simp)]
     ·have hF : fieldsP (d + 1) acc (by_ rest) = if c = 44 then fieldsP d (acc ++ [mkL a v]) x else none := by simp only [fieldsP, he, hg, hdr]; rw [if_neg (fun h => h1 (by rw [h]; rfl))]
      rw [hF]
      refine Ev.neg h1 ?_
      by_cases h2 : c = 44
      ·rw [if_pos h2, h2, ← hex]
       exact ih _ E (by omega) (by omega)
      ·rw [if_neg h2]
       have e2 : ((c.toNat : Int) == 44) = false := by
        rw [beq_eq_false_iff_ne]
        intro h
        exact h2 (UInt8.toNat_inj.1 (by show c.toNat = 44; omega))
       rw [e2]
       refine Ev.step (fun _ => rfl) ?_
       simp only [label_Parse.l0]
       refine Ev.neg (by simp) (Ev.step (fun _ => rfl) ?_)
       simp only [label_Parse.j1]
       exact Ev.neg (by simp) (Ev.now _)
/-- the set that a text begins with -/
def parseL (t : List UInt8) : List Lab × Int × Bool :=
 if pfxP [123, 125] t = true then ([], 2, true) else match t with
 | [] => ([], 0, false)
 | c :: r => if c = 123 then endL t.length (fieldsP 17 [] r) else ([], 0, false)
theorem cutpfx_f (t op : ByteArray) : strings_CutPrefix.f t op = some (if pfxP (by_ op) (by_ t) = true then (t.extract op.size t.size, true) else (t, false)) := by
 unfold strings_CutPrefix.f stringslite_CutPrefix.f
 have h := pfx_f t op
 unfold strings_HasPrefix.f at h
 cases hp : pfxP (by_ op) (by_ t) with
 | true =>
  rw [hp] at h
  have hl := pfxP_len hp
  rw [by_length, by_length] at hl
  cases hq : stringslite_HasPrefix.f t op with
  | none => rw [hq] at h; cases h
  | some b =>
   rw [hq] at h
   obtain rfl : b = true := Option.some.inj h
   rw [Option.bind_some, if_pos rfl, if_pos (by omega), if_pos (by omega), if_pos rfl]
   rfl
 | false =>
  rw [hp] at h
  cases hq : stringslite_HasPrefix.f t op with
  | none => rw [hq] at h; cases h
  | some b =>
   rw [hq] at h
   obtain rfl : b = false := Option.some.inj h
   rw [Option.bind_some, if_neg (by simp), if_neg (by simp)]
   rfl
theorem parse_set_ev (s : ByteArray) (hs : s.size < 140737488355328) : Ev (fun k => label_Parse.f k s) (parseL (by_ s)) := by
 have hb := by_length s
 unfold label_Parse.f
 rw [pfx_f, cutpfx_f]
 refine Ev.one ?_
 show Ev (fun k => if pfxP [123, 125] (by_ s) = true then _ else (some (if pfxP [123] (by_ s) = true then (s.extract 1 s.size, true) else (s, false))).bind _) _
 unfold parseL
 by_cases h : pfxP [123, 125] (by_ s) = true
 ·rw [if_pos h]
  exact Ev.pos h (Ev.now _)
 rw [if_neg h]
 refine Ev.neg h ?_
 cases hl : by_ s with
 | nil =>
  have : pfxP [123] ([] : List UInt8) = false := by decide
  simp only [this]
  refine Ev.one ?_
  refine Ev.step (fun _ => rfl) ?_
  simp only [label_Parse.l0]
  refine Ev.neg (by simp) (Ev.step (fun _ => rfl) ?_)
  simp only [label_Parse.j1]
  exact Ev.neg (by simp) (Ev.now _)
 | cons c r =>
  have hp : pfxP [123] (c :: r) = (c == 123) := by simp [pfxP]
  rw [hp]
  show Ev _ (if c = 123 then endL (c :: r).length (fieldsP 17 [] r) else ([], 0, false))
  by_cases hc : c = 123
  ·rw [if_pos hc, beq_iff_eq.2 hc, if_pos rfl]
   refine Ev.one ?_
   have hex : by_ (s.extract 1 s.size) = r := by
    rw [by_extract, List.take_of_length_le (by omega), hl]
    rfl
   have h2 := parse_loop s hs 17 [] (s.extract 1 s.size) rfl (by rw [← by_length, hex]; rw [hl] at hb; simp at hb; omega)
   rw [hex] at h2
   rw [hl] at hb
   rw [hb]
   exact h2
  ·rw [if_neg hc, beq_eq_false_iff_ne.2 hc, if_neg (by simp)]
   refine Ev.one ?_
   refine Ev.step (fun _ => rfl) ?_
   simp only [label_Parse.l0]
   refine Ev.neg (by simp) (Ev.step (fun _ => rfl) ?_)
   simp only [label_Parse.j1]
   exact Ev.neg (by simp) (Ev.now _)

/-! ### Text -/
def fieldP (p : Lab) : List UInt8 := by_ p.f0 ++ 61 :: putP (by_ p.f1)
def textL (l : List Lab) : List UInt8 := 123 :: (joinP [44] (l.map fieldP) ++ [125])
end Go.Proofs.Ytbkhgldinmabiaa.B
end

section
set_option linter.unusedVariables false
set_option linter.unusedSimpArgs false
namespace Go.Proofs.Ytbkhgldinmabiaa.B
open Go.RowKit Go.Proofs.Ytbkhgldinmabiaa.X Go.Proofs.YtbkhgldinmabiaaW.PrintWords Go.Proofs.YtbkhgldinmabiaaW.PrintLast

theorem pfx_two (c : UInt8) (x : List UInt8) : pfxP [123, 125] (123 :: c :: x) = (c == 125) := by
 simp [pfxP]
theorem join_len (c : Nat) : ∀ l : List (List UInt8), (∀ x ∈ l, x.length ≤ c) → (joinP [44] l).length ≤ l.length * (c + 1)
 | [], _ => by simp [joinP_nil]
 | [x], h => by
  rw [joinP_one]
  have := h x List.mem_cons_self
  simp
  omega
 | x :: y :: l, h => by
  have ih := join_len c (y :: l) (fun z hz => h z (List.mem_cons_of_mem _ hz))
  have h1 := h x List.mem_cons_self
  rw [joinP_cons, List.length_append, List.length_append]
  simp only [List.length_cons, List.length_nil] at ih ⊢
  rw [Nat.add_mul]
  omega
theorem field_len (p : Lab) : (fieldP p).length ≤ p.f0.size + 1 + (4 * p.f1.size + 2) := by
 unfold fieldP
 rw [List.length_append, List.length_cons, by_length, putP_len]
 have := (flat_len (by_ p.f1)).2
 rw [by_length] at this
 omega
theorem ofP_mem : ∀ (L l : List Lab) (p : Lab), p ∈ ofP l L → p ∈ l ∨ p ∈ L
 | [], _, _, h => .inl h
 | q :: L, l, p, h => by
  unfold ofP at h
  rw [List.foldl_cons] at h
  rcases ofP_mem L _ p h with h1 | h1
  ·split at h1
   ·rcases stepP_mem l q p h1 with h2 | h2
    ·exact .inr (by rw [h2]; exact List.mem_cons_self)
    ·exact .inl h2
   ·exact .inl h1
  ·exact .inr (List.mem_cons_of_mem _ h1)
end Go.Proofs.Ytbkhgldinmabiaa.B
end

section
set_option linter.unusedVariables false
set_option linter.unusedSimpArgs false
namespace Go.Proofs.Ytbkhgldinmabiaa.B
open Go.RowKit Go.Proofs.Ytbkhgldinmabiaa.X Go.Proofs.YtbkhgldinmabiaaW.PrintWords Go.Proofs.YtbkhgldinmabiaaW.PrintLast

abbrev RLab := S38
def toR (p : Lab) : RLab := ⟨p.f0, p.f1⟩
theorem rdR (l : List Lab) (i : Nat) (h : i < l.length) : rd_T38 (l.map toR) (i : Int) = ⟨l[i].f0, l[i].f1⟩ := by simp [rd_T38, h, toR]
theorem lab_ext {a b : Lab} (h0 : a.f0 = b.f0) (h1 : a.f1 = b.f1) : a = b := by
 cases a
 cases b
 simp only at h0 h1
 rw [h0, h1]
theorem refPairs_loop (l : List Lab) (hl : l.length ≤ 1000000) : ∀ (d i : Nat), l.length - i = d → i ≤ l.length →
  Ev (fun k => archivistlaw06_refPairs.l0 k l ((l.take i).map toR) (i : Int)) (l.map toR) := by
 intro d
 induction d with
 | zero =>
  intro i hd hi
  refine Ev.step (fun _ => rfl) ?_
  simp only [archivistlaw06_refPairs.l0]
  rw [List.take_of_length_le (by omega)]
  exact Ev.neg (by omega) (Ev.now _)
 | succ d ih =>
  intro i hd hi
  have hlt : i < l.length := by omega
  have ih' := ih (i + 1) (by omega) (by omega)
  rw [List.take_add_one, List.getElem?_eq_getElem hlt, Option.toList_some, List.map_append] at ih'
  refine Ev.step (fun _ => rfl) ?_
  simp only [archivistlaw06_refPairs.l0]
  rw [rdLab l i hlt, w1 i (by omega)]
  exact Ev.pos (by omega) (Ev.pos (by omega) (Ev.pos (by rw [List.length_map, List.length_take]; omega) ih'))
theorem refPairs_ev (l : List Lab) (hl : l.length ≤ 1000000) : Ev (fun k => archivistlaw06_refPairs.f k l) (l.map toR) :=
 refPairs_loop l hl l.length 0 rfl (Nat.zero_le _)
theorem samePairs_loop (a b : List Lab) (hl : a.length ≤ 1000000) (hlr : a.length = b.length) : ∀ (d i : Nat), a.length - i = d → i ≤ a.length →
  Ev (fun k => archivistlaw06_samePairs.l0 k a (b.map toR) (i : Int)) (decide (a.drop i = b.drop i)) := by
 intro d
 induction d with
 | zero =>
  intro i hd hi
  refine Ev.step (fun _ => rfl) ?_
  simp only [archivistlaw06_samePairs.l0]
  rw [List.drop_of_length_le (by omega), List.drop_of_length_le (by omega)]
  exact Ev.neg (by omega) (Ev.ret (decide_eq_true rfl).symm)
 | succ d ih =>
  intro i hd hi
  have hlt : i < a.length := by omega
  have hlt2 : i < b.length := by omega
  have ih' := ih (i + 1) (by omega) (by omega)
  refine Ev.step (fun _ => rfl) ?_
  simp only [archivistlaw06_samePairs.l0]
  rw [rdLab a i hlt, rdR b i hlt2, w1 i (by omega), List.drop_eq_getElem_cons hlt, List.drop_eq_getElem_cons hlt2]
  dsimp only
  refine Ev.pos (by omega) (Ev.pos (by omega) (Ev.pos (by rw [List.length_map]; omega) ?_))
  by_cases h0 : a[i].f0 = b[i].f0
  ·refine Ev.pos (ba_eq.2 h0) ?_
   by_cases h1 : a[i].f1 = b[i].f1
   ·refine Ev.pos (ba_eq.2 h1) ?_
    have e : decide (a[i] :: a.drop (i + 1) = b[i] :: b.drop (i + 1)) = decide (a.drop (i + 1) = b.drop (i + 1)) := by
     rw [decide_eq_decide, List.cons.injEq]
     exact ⟨And.right, fun h => ⟨lab_ext h0 h1, h⟩⟩
    rw [e]
    exact ih'
   ·exact Ev.neg (fun h => h1 (ba_eq.1 h)) (Ev.ret (decide_eq_false (fun h => h1 (by injection h with h _; rw [h]))).symm)
  ·exact Ev.neg (fun h => h0 (ba_eq.1 h)) (Ev.ret (decide_eq_false (fun h => h0 (by injection h with h _; rw [h]))).symm)
theorem samePairs_ev (a b : List Lab) (hl : a.length ≤ 1000000) : Ev (fun k => archivistlaw06_samePairs.f k a (b.map toR)) (decide (a = b)) := by
 unfold archivistlaw06_samePairs.f
 by_cases h : a.length = b.length
 ·have h2 := samePairs_loop a b hl h a.length 0 rfl (Nat.zero_le _)
  rw [List.drop_zero, List.drop_zero] at h2
  exact Ev.pos (by rw [List.length_map]; omega) h2
 ·exact Ev.neg (by rw [List.length_map]; omega) (Ev.ret (decide_eq_false (fun e => h (by rw [e]))).symm)
/-! ### names -/
theorem letter_all : ∀ n : Fin 256, ∀ b : Bool, archivistref06_letter.f (n.val : Int) b = some (nameC (UInt8.ofNat n.val) && !(b && (decide (48 ≤ n.val) && decide (n.val ≤ 57)))) := by decide +kernel
theorem letter_f (c : UInt8) (b : Bool) : archivistref06_letter.f (c.toNat : Int) b = some (nameC c && !(b && (decide (48 ≤ c.toNat) && decide (c.toNat ≤ 57)))) := by
 have h := letter_all ⟨c.toNat, c.toNat_lt⟩ b
 simpa using h
theorem refName_loop (s : ByteArray) (hz : s.size ≤ 32) : ∀ (d i : Nat), s.size - i = d → 0 < i → i ≤ s.size →
  Ev (fun k => archivistref06_Name.l0 k s (i : Int)) (((by_ s).drop i).all nameC)
 | 0, i, hd, h0, hi => by
  have hb := by_length s
  refine Ev.step (fun _ => rfl) ?_
  simp only [archivistref06_Name.l0]
  rw [List.drop_of_length_le (by omega)]
  exact Ev.neg (by omega) (Ev.now _)
 | d + 1, i, hd, h0, hi => by
  have hb := by_length s
  have hlt : i < (by_ s).length := by omega
  have ih := refName_loop s hz d (i + 1) (by omega) (by omega) (by omega)
  refine Ev.step (fun _ => rfl) ?_
  simp only [archivistref06_Name.l0]
  rw [List.drop_eq_getElem_cons hlt, List.all_cons, w1 i (by omega), bt_by s i hlt, letter_f]
  have e0 : ((i : Int) == 0) = false := by rw [beq_eq_false_iff_ne]; omega
  rw [e0, Bool.false_and, Bool.not_false, Bool.and_true]
  refine Ev.pos (by omega) (Ev.pos (by omega) (Ev.one ?_))
  cases hn : nameC (by_ s)[i] with
  | true =>
   rw [Bool.true_and]
   exact Ev.pos rfl ih
  | false => exact Ev.neg (by simp) (Ev.now _)
theorem refName_ev (s : ByteArray) : Ev (fun k => archivistref06_Name.f k s) (nameP (by_ s)) := by
 have hb := by_length s
 have hno : Ev (fun k => archivistref06_Name.j0 k s true) false := Ev.step (f := fun _ => some false) (fun _ => by simp [archivistref06_Name.j0]) (Ev.now _)
 unfold archivistref06_Name.f
 cases hs : by_ s with
 | nil =>
  rw [hs] at hb
  exact Ev.pos (by simp at hb; omega) hno
 | cons c l =>
  rw [hs] at hb
  simp only [List.length_cons] at hb
  have h0 : bt s 0 = (c.toNat : Int) := bt_at_ s 0 c (by rw [hs]; rfl)
  refine Ev.neg (by omega) ?_
  by_cases h32 : (s.size : Int) > 32
  ·have e : nameP (c :: l) = false := by simp only [nameP]; rw [decide_eq_false (by omega)]; rfl
   rw [e, decide_eq_true h32]
   exact hno
  ·rw [decide_eq_false h32]
   refine Ev.step (fun _ => rfl) ?_
   simp only [archivistref06_Name.j0]
   refine Ev.neg (by simp) (Ev.step (fun _ => rfl) ?_)
   simp only [archivistref06_Name.l0]
   have h := refName_loop s (by omega) (s.size - 1) 1 rfl (by omega) (by omega)
   rw [hs] at h
   rw [h0, letter_f]
   have e0 : decide (l.length < 32) = true := decide_eq_true (by omega)
   have ew : wrap64 (0 + 1) = ((1 : Nat) : Int) := w1 0 (by omega)
   rw [ew]
   simp only [nameP, e0, Bool.true_and, List.all_cons]
   refine Ev.pos (by omega) (Ev.pos (by decide) (Ev.one ?_))
   cases hn : nameC c with
   | false =>
    rw [Bool.false_and, Bool.false_and, Bool.and_false]
    exact Ev.neg (by simp) (Ev.now _)
   | true =>
    rw [Bool.true_and, Bool.true_and]
    have eb : ((0 : Int) == 0) = true := rfl
    rw [eb, Bool.true_and]
    cases hd : (!(decide (48 ≤ c.toNat) && decide (c.toNat ≤ 57))) with
    | false =>
     rw [Bool.false_and]
     exact Ev.neg (by simp) (Ev.now _)
    | true =>
     rw [Bool.true_and]
     exact Ev.pos rfl h

/-! ### Right -/
theorem refRight_loop (l : List Lab) (hl : l.length ≤ 16) : ∀ d i, l.length - i = d → i ≤ l.length →
  Ev (fun k => archivistref06_Right.l0 k (l.map toR) (i : Int)) (stepsB (prevL l i) (l.drop i)) := by
 intro d
 induction d with
 | zero =>
  intro i hd hi
  rw [List.drop_of_length_le (by omega)]
  refine Ev.step (fun _ => rfl) ?_
  simp only [archivistref06_Right.l0]
  refine Ev.neg (by rw [List.length_map]; omega) (Ev.ret ?_)
  cases prevL l i <;> rfl
 | succ d ih =>
  intro i hd hi
  have h : i < l.length := by omega
  have hih := ih (i + 1) (by omega) (by omega)
  rw [List.drop_eq_getElem_cons h]
  have hp : prevL l (i + 1) = some l[i] := by
   unfold prevL
   rw [if_neg (by omega), Nat.add_sub_cancel, List.getElem?_eq_getElem h]
  rw [hp] at hih
  refine Ev.step (fun _ => rfl) ?_
  simp only [archivistref06_Right.l0]
  refine Ev.pos (by rw [List.length_map]; omega) (Ev.pos (by omega) ?_)
  rw [rdR l i h]
  dsimp only
  refine Ev.bind (refName_ev _) ?_
  have bad : okL l[i] = false → (false = stepsB (prevL l i) (l[i] :: l.drop (i + 1))) := fun h0 => by
   cases prevL l i <;> simp [stepsB, h0]
  cases hn : nameP (by_ l[i].f0) with
  | false => exact Ev.neg (by simp) (Ev.ret (bad (by unfold okL; rw [hn]; rfl)))
  | true =>
   refine Ev.pos rfl ?_
   by_cases hz : ((l[i].f1).size : Int) > 256
   ·exact Ev.pos hz (Ev.ret (bad (by unfold okL; rw [hn, decide_eq_false (by omega)]; rfl)))
   ·refine Ev.neg hz ?_
    have hok : okL l[i] = true := by unfold okL; rw [hn, decide_eq_true (by omega)]; rfl
    rcases Nat.eq_zero_or_pos i with rfl | hpos
    ·refine Ev.neg (by omega) ?_
     have e0 : prevL l 0 = none := rfl
     rw [e0]
     simp only [stepsB, hok, Bool.true_and]
     rw [w1 0 (by omega)]
     exact hih
    ·have hw : wrap64 ((i : Int) - 1) = ((i - 1 : Nat) : Int) := by rw [wrap_in (by omega) (by omega)]; omega
     have e0 : prevL l i = some l[i - 1] := by
      unfold prevL
      rw [if_neg (by omega), List.getElem?_eq_getElem (by omega)]
     refine Ev.pos (by omega) ?_
     rw [hw, rdR l (i - 1) (by omega)]
     dsimp only
     rw [toList_by, toList_by]
     refine Ev.pos (by omega) (Ev.pos (by rw [List.length_map]; omega) ?_)
     rw [e0]
     simp only [stepsB, hok, Bool.true_and]
     by_cases hr0 : nl l[i - 1].f0 l[i].f0
     ·refine Ev.pos hr0 ?_
      rw [decide_eq_true hr0, w1 i (by omega), Bool.true_and]
      exact hih
     ·refine Ev.neg hr0 (Ev.ret ?_)
      rw [decide_eq_false hr0]
      rfl
theorem refRight_ev (l : List Lab) : Ev (fun k => archivistref06_Right.f k (l.map toR)) (rightL l) := by
 unfold archivistref06_Right.f rightL
 by_cases h : l.length ≤ 16
 ·rw [decide_eq_true h, Bool.and_true]
  exact Ev.neg (by rw [List.length_map]; omega) (refRight_loop l h l.length 0 (by omega) (by omega))
 ·rw [decide_eq_false h, Bool.and_false]
  exact Ev.pos (by rw [List.length_map]; omega) (Ev.now _)

/-! ### Of -/
theorem stepP_app (p : Lab) : ∀ a b : List Lab, (∀ y ∈ a, nl y.f0 p.f0) → stepP (a ++ b) p = a ++ stepP b p
 | [], _, _ => rfl
 | x :: a, b, h => by
  rw [List.cons_append, stepP_cons, if_pos (h x List.mem_cons_self), stepP_app p a b (fun y hy => h y (List.mem_cons_of_mem _ hy))]
  rfl
theorem refOf_in (L : List Lab) (hL : L.length ≤ 1000000) (i : Nat) (hi : i < L.length) (R : List RLab) : ∀ (b a : List Lab), (∀ y ∈ a, nl y.f0 L[i].f0) → a.length + b.length ≤ 1000000 →
  Ev (fun k => archivistref06_Of.l0 k (L.map toR) ((stepP (a ++ b) L[i]).map toR) ((i + 1 : Nat) : Int)) R →
  Ev (fun k => archivistref06_Of.l1 k (L.map toR) ((a ++ b).map toR) (i : Int) (a.length : Int)) R := by
 intro b
 induction b with
 | nil =>
  intro a ha hz h
  rw [stepP_app L[i] a [] ha, stepP_nil, List.map_append] at h
  refine Ev.step (fun _ => rfl) ?_
  simp only [archivistref06_Of.l1]
  have e1 : (a.map toR).take a.length = a.map toR := List.take_of_length_le (by rw [List.length_map]; omega)
  have e2 : (a.map toR).drop a.length = [] := List.drop_of_length_le (by rw [List.length_map]; omega)
  have hm : (a.map toR).length = a.length := List.length_map ..
  have hM : (L.map toR).length = L.length := List.length_map ..
  rw [rdR L i hi, w1 i (by omega), Int.toNat_natCast, List.append_nil, e1, e2]
  refine Ev.neg (by omega) (Ev.pos (by omega) (Ev.pos (by omega) (Ev.one (Ev.pos (by simp; omega) (Ev.one (Ev.pos (by omega) (Ev.pos (by omega) (Ev.pos (by simp; omega) (Ev.one (Ev.one (Ev.pos (by simp; omega) ?_)))))))))))
  rw [List.nil_append, List.append_nil]
  exact h
 | cons x b ih =>
  intro a ha hz h
  have hm : ((a ++ x :: b).map toR).length = a.length + (b.length + 1) := by simp
  have hM : (L.map toR).length = L.length := List.length_map ..
  have hx : rd_T38 ((a ++ x :: b).map toR) (a.length : Int) = ⟨x.f0, x.f1⟩ := by
   rw [rdR _ _ (by simp)]
   simp
  have hzz : a.length + (b.length + 1) ≤ 1000000 := hz
  refine Ev.step (fun _ => rfl) ?_
  simp only [archivistref06_Of.l1]
  rw [rdR L i hi, hx, w1 i (by omega), w1 a.length (by omega)]
  dsimp only
  rw [toList_by, toList_by]
  refine Ev.pos (by omega) (Ev.pos (by omega) (Ev.pos (by omega) (Ev.pos (by omega) ?_)))
  by_cases hn : nl x.f0 L[i].f0
  ·refine Ev.pos hn ?_
   have e : a ++ x :: b = (a ++ [x]) ++ b := by simp
   have el : (a ++ [x]).length = a.length + 1 := by simp
   rw [e] at h ⊢
   have h2 := ih (a ++ [x]) (fun y hy => by
    rcases List.mem_append.1 hy with h1 | h1
    ·exact ha y h1
    ·rw [List.mem_singleton.1 h1]
     exact hn) (by omega) h
   rw [el] at h2
   exact h2
  ·refine Ev.neg hn ?_
   rw [stepP_app L[i] a (x :: b) ha, stepP_cons, if_neg hn] at h
   have e1 : ((a ++ x :: b).map toR).take a.length = a.map toR := by rw [List.map_append, List.take_left' (List.length_map ..)]
   have e2 : ((a ++ x :: b).map toR).drop a.length = (x :: b).map toR := by rw [List.map_append, List.drop_left' (List.length_map ..)]
   have e3 : ((a ++ x :: b).map toR).drop (a.length + 1) = b.map toR := by
    have e : a ++ x :: b = (a ++ [x]) ++ b := by simp
    rw [e, List.map_append, List.drop_left' (by simp)]
   have hma : (a.map toR).length = a.length := List.length_map ..
   have hmb : (b.map toR).length = b.length := List.length_map ..
   rw [Int.toNat_natCast, Int.toNat_natCast, e1, e2, e3]
   refine Ev.pos (by omega) (Ev.one (Ev.pos (by simp; omega) (Ev.one (Ev.pos (by simp; omega) (Ev.one ?_)))))
   rw [List.nil_append]
   by_cases he : x.f0 = L[i].f0
   ·rw [if_pos he] at h
    refine Ev.pos (by rw [he]) (Ev.pos (by omega) (Ev.pos (by omega) (Ev.one (Ev.pos (by simp; omega) ?_))))
    rw [List.append_assoc]
    rw [List.map_append] at h
    exact h
   ·rw [if_neg he] at h
    refine Ev.neg (fun e => he (by_ext e)) (Ev.one (Ev.pos (by simp; omega) ?_))
    rw [List.append_assoc]
    rw [List.map_append] at h
    exact h
theorem refOf_loop (L : List Lab) (hL : L.length ≤ 1000000) : ∀ (d i : Nat) (l : List Lab), L.length - i = d → i ≤ L.length → l.length ≤ i →
  Ev (fun k => archivistref06_Of.l0 k (L.map toR) (l.map toR) (i : Int)) ((ofP l (L.drop i)).map toR) := by
 intro d
 induction d with
 | zero =>
  intro i l hd hi hl
  refine Ev.step (fun _ => rfl) ?_
  simp only [archivistref06_Of.l0]
  rw [List.drop_of_length_le (by omega)]
  exact Ev.neg (by rw [List.length_map]; omega) (Ev.now _)
 | succ d ih =>
  intro i l hd hi hl
  have hlt : i < L.length := by omega
  rw [List.drop_eq_getElem_cons hlt]
  refine Ev.step (fun _ => rfl) ?_
  simp only [archivistref06_Of.l0]
  rw [rdR L i hlt, w1 i (by omega)]
  refine Ev.pos (by rw [List.length_map]; omega) (Ev.pos (by omega) (Ev.bind (refName_ev L[i].f0) ?_))
  unfold ofP
  rw [List.foldl_cons]
  by_cases hn : nameP (by_ L[i].f0) = true
  ·rw [if_pos hn]
   refine Ev.pos hn ?_
   have ih' := ih (i + 1) (stepP l L[i]) (by omega) (by omega) (by have := stepP_length l L[i]; omega)
   exact refOf_in L hL i hlt _ l [] (fun _ h => by simp at h) (by simp; omega) ih'
  ·rw [if_neg hn]
   exact Ev.neg hn (ih (i + 1) l (by omega) (by omega) (by omega))
theorem refOf_ev (L : List Lab) (hL : L.length ≤ 1000000) : Ev (fun k => archivistref06_Of.f k (L.map toR)) ((ofP [] L).map toR) := by
 have h := refOf_loop L hL L.length 0 [] rfl (Nat.zero_le _) (Nat.zero_le _)
 rw [List.drop_zero] at h
 exact h
end Go.Proofs.Ytbkhgldinmabiaa.B
end

section
set_option linter.unusedVariables false
set_option linter.unusedSimpArgs false
namespace Go.Proofs.Ytbkhgldinmabiaa.B
open Go.RowKit Go.Proofs.Ytbkhgldinmabiaa.X Go.Proofs.YtbkhgldinmabiaaW.PrintWords Go.Proofs.YtbkhgldinmabiaaW.PrintLast

/-! ### order -/
/-! ### text -/
theorem one_evS (b : UInt8) : Ev (fun k => archivistref01_one.f k (b.toNat : Int)) ⟨(oneP b).toArray⟩ := by
 refine Ev.of (k := 5) (archivistref01_one.mono _) ?_
 have h : ∀ n : Fin 256, archivistref01_one.f 5 ((UInt8.ofNat n.val).toNat : Int) = some ⟨(oneP (UInt8.ofNat n.val)).toArray⟩ := by decide +kernel
 have := h ⟨b.toNat, b.toNat_lt⟩
 simpa using this
/-! ### the document's Get -/
theorem refPut_loop (s : ByteArray) (hs : s.size ≤ 1048576) : ∀ (d i : Nat) (acc : ByteArray), s.size - i = d → i ≤ s.size → acc.size ≤ 1 + 4 * i →
  Ev (fun k => archivistref01_Put.l0 k s acc (i : Int)) (acc ++ ⟨(((by_ s).drop i).flatMap oneP ++ [34]).toArray⟩) := by
 have hb := by_length s
 intro d
 induction d with
 | zero =>
  intro i acc hd hi ha
  refine Ev.step (fun _ => rfl) ?_
  simp only [archivistref01_Put.l0]
  rw [List.drop_of_length_le (by omega)]
  exact Ev.neg (by omega) (Ev.pos (by omega) (Ev.now _))
 | succ d ih =>
  intro i acc hd hi ha
  have hlt : i < (by_ s).length := by omega
  have hc := bt_by s i hlt
  obtain ⟨b, hbb⟩ : ∃ b, (by_ s)[i] = b := ⟨_, rfl⟩
  rw [hbb] at hc
  have hdr := List.drop_eq_getElem_cons hlt
  rw [hbb] at hdr
  obtain ⟨w, hw⟩ : ∃ w : ByteArray, w = ⟨(oneP b).toArray⟩ := ⟨_, rfl⟩
  have hbw : by_ w = oneP b := by rw [hw, by_mk]
  have hwl := oneP_len b
  rw [← hbw, by_length] at hwl
  have h1 := one_evS b
  rw [← hw] at h1
  have ih' := ih (i + 1) (acc ++ w) (by omega) (by omega) (by rw [ByteArray.size_append]; omega)
  have e : acc ++ (⟨(((by_ s).drop i).flatMap oneP ++ [34]).toArray⟩ : ByteArray) = (acc ++ w) ++ ⟨(((by_ s).drop (i + 1)).flatMap oneP ++ [34]).toArray⟩ := by
   apply by_ext
   rw [by_append acc, by_append (acc ++ w), by_append acc w, by_mk (((by_ s).drop i).flatMap oneP ++ [34]), by_mk (((by_ s).drop (i + 1)).flatMap oneP ++ [34]), hbw, hdr, List.flatMap_cons, List.append_assoc, List.append_assoc]
  rw [e]
  refine Ev.step (fun _ => rfl) ?_
  simp only [archivistref01_Put.l0]
  rw [hc, show wrap64 ((i : Int) + 1) = ((i + 1 : Nat) : Int) by rw [wrap_in] <;> omega]
  exact Ev.pos (by omega) (Ev.pos (by omega) (Ev.bind h1 (Ev.pos (by omega) ih')))
theorem refPut_ev (s : ByteArray) (hs : s.size ≤ 1048576) : Ev (fun k => archivistref01_Put.f k s) ⟨(putP (by_ s)).toArray⟩ := by
 have h := refPut_loop s hs s.size 0 ⟨#[34]⟩ rfl (Nat.zero_le _) (by decide)
 rw [List.drop_zero] at h
 have e : (⟨#[34]⟩ : ByteArray) ++ ⟨((by_ s).flatMap oneP ++ [34]).toArray⟩ = ⟨(putP (by_ s)).toArray⟩ := by
  apply by_ext
  rw [by_append, by_mk, by_mk]
  rfl
 rw [e] at h
 exact h
def sufP (l : List Lab) : List UInt8 := l.flatMap fun p => 44 :: fieldP p
theorem join_suf : ∀ (l : List Lab) (x : Lab), joinP [44] ((x :: l).map fieldP) = fieldP x ++ sufP l
 | [], x => by
  rw [List.map_cons, List.map_nil, joinP_one]
  exact (List.append_nil _).symm
 | y :: l, x => by
  have h := join_suf l y
  rw [List.map_cons] at h
  rw [List.map_cons, List.map_cons, joinP_cons, h]
  unfold sufP
  rw [List.flatMap_cons, List.append_assoc]
  rfl
theorem refText_loop (l : List Lab) (hl : l.length ≤ 1000) (hz : ∀ p ∈ l, p.f0.size ≤ 1048576 ∧ p.f1.size ≤ 1048576) : ∀ (d i : Nat) (acc : ByteArray), l.length - i = d → 0 < i → i ≤ l.length → acc.size ≤ 10000000 * i →
  Ev (fun k => archivistref06_Text.l0 k (l.map toR) acc (i : Int)) (acc ++ ⟨(sufP (l.drop i) ++ [125]).toArray⟩) := by
 have hm : (l.map toR).length = l.length := List.length_map ..
 intro d
 induction d with
 | zero =>
  intro i acc hd h0 hi ha
  refine Ev.step (fun _ => rfl) ?_
  simp only [archivistref06_Text.l0]
  rw [List.drop_of_length_le (by omega)]
  exact Ev.neg (by omega) (Ev.pos (by omega) (Ev.now _))
 | succ d ih =>
  intro i acc hd h0 hi ha
  have hlt : i < l.length := by omega
  have hp := hz _ (List.getElem_mem hlt)
  rw [List.drop_eq_getElem_cons hlt]
  refine Ev.step (fun _ => rfl) ?_
  simp only [archivistref06_Text.l0]
  rw [rdR l i hlt, w1 i (by omega)]
  dsimp only
  obtain ⟨w, hw⟩ : ∃ w : ByteArray, w = ⟨(putP (by_ l[i].f1)).toArray⟩ := ⟨_, rfl⟩
  have hbw : by_ w = putP (by_ l[i].f1) := by rw [hw, by_mk]
  have hwz : w.size ≤ 4 * l[i].f1.size + 2 := by
   rw [← by_length, hbw, putP_len]
   have := (flat_len (by_ l[i].f1)).2
   rw [by_length] at this
   omega
  have hv := refPut_ev l[i].f1 hp.2
  rw [← hw] at hv
  have z1 : (⟨#[44]⟩ : ByteArray).size = 1 := rfl
  have z2 : (⟨#[61]⟩ : ByteArray).size = 1 := rfl
  refine Ev.pos (by omega) (Ev.pos (by omega) (Ev.pos (by omega) (Ev.pos (by omega) (Ev.pos (by rw [ByteArray.size_append, z1]; omega) (Ev.pos (by rw [ByteArray.size_append, ByteArray.size_append, z1]; omega) (Ev.bind hv (Ev.pos (by rw [ByteArray.size_append, ByteArray.size_append, ByteArray.size_append, z1, z2]; omega) ?_)))))))
  have ih' := ih (i + 1) (acc ++ ⟨#[44]⟩ ++ l[i].f0 ++ ⟨#[61]⟩ ++ w) (by omega) (by omega) (by omega) (by rw [ByteArray.size_append, ByteArray.size_append, ByteArray.size_append, ByteArray.size_append, z1, z2]; omega)
  have e : acc ++ (⟨(sufP (l[i] :: l.drop (i + 1)) ++ [125]).toArray⟩ : ByteArray) = (acc ++ ⟨#[44]⟩ ++ l[i].f0 ++ ⟨#[61]⟩ ++ w) ++ ⟨(sufP (l.drop (i + 1)) ++ [125]).toArray⟩ := by
   apply by_ext
   generalize hq : l.drop (i + 1) = q
   generalize l[i] = p at hbw
   rw [by_append acc, by_append (acc ++ ⟨#[44]⟩ ++ p.f0 ++ ⟨#[61]⟩ ++ w), by_append, by_append, by_append, by_append, by_mk (sufP (p :: q) ++ [125]), by_mk (sufP q ++ [125]), hbw, by_mk [44], by_mk [61]]
   unfold sufP
   rw [List.flatMap_cons]
   unfold fieldP
   simp
  rw [e]
  exact ih'
theorem refText_ev (l : List Lab) (hl : l.length ≤ 1000) (hz : ∀ p ∈ l, p.f0.size ≤ 1048576 ∧ p.f1.size ≤ 1048576) : Ev (fun k => archivistref06_Text.f k (l.map toR)) ⟨(textL l).toArray⟩ := by
 unfold archivistref06_Text.f
 refine Ev.step (fun _ => rfl) ?_
 simp only [archivistref06_Text.l0]
 cases l with
 | nil => exact Ev.neg (by simp) (Ev.pos (by decide) (Ev.now _))
 | cons p l =>
  have hp := hz _ List.mem_cons_self
  have hlt : 0 < (p :: l).length := by simp
  have hr : rd_T38 ((p :: l).map toR) 0 = ⟨p.f0, p.f1⟩ := rdR (p :: l) 0 hlt
  have ew : wrap64 (0 + 1) = ((1 : Nat) : Int) := w1 0 (by omega)
  rw [hr, ew]
  dsimp only
  obtain ⟨w, hw⟩ : ∃ w : ByteArray, w = ⟨(putP (by_ p.f1)).toArray⟩ := ⟨_, rfl⟩
  have hbw : by_ w = putP (by_ p.f1) := by rw [hw, by_mk]
  have hwz : w.size ≤ 4 * p.f1.size + 2 := by
   rw [← by_length, hbw, putP_len]
   have := (flat_len (by_ p.f1)).2
   rw [by_length] at this
   omega
  have hv := refPut_ev p.f1 hp.2
  rw [← hw] at hv
  have z1 : (⟨#[123]⟩ : ByteArray).size = 1 := rfl
  have z2 : (⟨#[61]⟩ : ByteArray).size = 1 := rfl
  have h := refText_loop (p :: l) hl hz l.length 1 (⟨#[123]⟩ ++ p.f0 ++ ⟨#[61]⟩ ++ w) (by simp) (by omega) (by simp) (by rw [ByteArray.size_append, ByteArray.size_append, ByteArray.size_append, z1, z2]; omega)
  have e : (⟨(textL (p :: l)).toArray⟩ : ByteArray) = (⟨#[123]⟩ ++ p.f0 ++ ⟨#[61]⟩ ++ w) ++ ⟨(sufP ((p :: l).drop 1) ++ [125]).toArray⟩ := by
   apply by_ext
   rw [by_append (⟨#[123]⟩ ++ p.f0 ++ ⟨#[61]⟩ ++ w), by_append, by_append, by_append, by_mk (textL (p :: l)), by_mk (sufP _ ++ [125]), hbw, by_mk [123], by_mk [61]]
   unfold textL
   rw [join_suf]
   unfold fieldP
   simp
  rw [e]
  exact Ev.pos (by rw [List.length_map]; omega) (Ev.neg (by omega) (Ev.pos (by omega) (Ev.pos (by rw [z1]; omega) (Ev.pos (by rw [ByteArray.size_append, z1]; omega) (Ev.bind hv (Ev.pos (by rw [ByteArray.size_append, ByteArray.size_append, z1, z2]; omega) h))))))

end Go.Proofs.Ytbkhgldinmabiaa.B
end
