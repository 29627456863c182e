/-
  The plain texts of the seat YtjmbddgbojcpmaaDoor in one.
-/
import Derived.Test.YtjmbddgbojcpmaaDoorX0
import Derived.Test.YtjmbddgbojcpmaaDoorX8
import Derived.Test.YtjmbddgbojcpmaaDoorX4
import Derived.Test.YtjmbddgbojcpmaaDoorX14
import Derived.Test.YtjmbddgbojcpmaaDoorX15
import Derived.Test.YtjmbddgbojcpmaaDoorX10
import Derived.Test.YtjmbddgbojcpmaaDoorX9
import Derived.Test.YtjmbddgbojcpmaaDoorX2
import Derived.Test.YtjmbddgbojcpmaaDoorX6
import Derived.Test.YtjmbddgbojcpmaaDoorX1
import Derived.Lib.Join
import Derived.Test.YtjmbddgbojcpmaaDoorX3
import Derived.Test.YtjmbddgbojcpmaaDoorX5
import Derived.Test.YtjmbddgbojcpmaaDoorX12
import Derived.Lib.ParseIntBTie
import Derived.Test.YtjmbddgbojcpmaaDoorX11
import Derived.Test.YtjmbddgbojcpmaaDoorX16
section
set_option linter.unusedVariables false
set_option linter.unusedSimpArgs false
namespace Go.Proofs.YtjmbddgbojcpmaaDoor.B
open Go.RowKit Go.Proofs.YtjmbddgbojcpmaaDoor.X Go.Proofs.YtjmbddgbojcpmaaDoorW.PrintWords Go.Proofs.YtjmbddgbojcpmaaDoorW.PrintLast

/-! ### rounds -/
theorem Ev.pos {α : Type} {c : Prop} [Decidable c] {A B : Nat → Option α} {r : α} (h : c) (k : Ev A r) : Ev (fun n => if c then A n else B n) r := Ev.congr (fun n => if_pos h) k
theorem Ev.neg {α : Type} {c : Prop} [Decidable c] {A B : Nat → Option α} {r : α} (h : ¬ c) (k : Ev B r) : Ev (fun n => if c then A n else B n) r := Ev.congr (fun n => if_neg h) k
theorem Ev.one {α β : Type} {x : α} {f : Nat → α → Option β} {r : β} (k : Ev (fun n => f n x) r) : Ev (fun n => (some x).bind (f n)) r := k
theorem Ev.ret {α : Type} {x r : α} (h : x = r) : Ev (fun _ => some x) r := h ▸ Ev.now x
/-- what answers at some number of rounds answers so at every greater one: two answers are one -/
theorem Ev.fun_ {α : Type} {g : Nat → Option α} {r q : α} (h : Ev g r) (k : Ev g q) : r = q := by
  obtain ⟨K, h⟩ := h
  obtain ⟨K', k⟩ := k
  have h1 := h (max K K') (by omega)
  have h2 := k (max K K') (by omega)
  rw [h1] at h2
  exact Option.some.inj h2

/-! ### texts as lists of bytes -/
/-- a text's bytes -/
def by_ (s : ByteArray) : List UInt8 := s.data.toList
theorem toList_by (s : ByteArray) : s.toList = by_ s := x_toList s
theorem by_length (s : ByteArray) : (by_ s).length = s.size := data_length s
theorem by_ext {s t : ByteArray} (h : by_ s = by_ t) : s = t := by
  cases s
  cases t
  simp only [by_] at h
  exact congrArg ByteArray.mk (Array.toList_inj.mp h)
theorem by_mk (l : List UInt8) : by_ ⟨l.toArray⟩ = l := by simp [by_]
theorem by_append (s t : ByteArray) : by_ (s ++ t) = by_ s ++ by_ t := by simp [by_, ByteArray.data_append]
theorem by_extract (s : ByteArray) (i j : Nat) : by_ (s.extract i j) = ((by_ s).take j).drop i := by
  simp [by_, ByteArray.data_extract, Array.toList_extract, List.extract, List.drop_take]
theorem bt_by (s : ByteArray) (i : Nat) (h : i < (by_ s).length) : bt s i = (((by_ s)[i]).toNat : Int) := by
  have h2 : i < s.size := by rw [by_length] at h; exact h
  unfold bt
  rw [dif_pos (by simpa using h2)]
  rfl
theorem wrap_in {x : Int} (h0 : -9223372036854775808 ≤ x) (h1 : x ≤ 9223372036854775807) : wrap64 x = x := by unfold wrap64; omega
theorem rdS (l : List ByteArray) (i : Nat) (h : i < l.length) : rdOf ByteArray.empty l (i : Int) = l[i] := by simp [rdOf, List.getD_eq_getElem?_getD, h]
theorem w1 (i : Nat) (h : i < 9223372036854775807) : wrap64 ((i : Int) + 1) = ((i + 1 : Nat) : Int) := by rw [wrap_in] <;> omega
end Go.Proofs.YtjmbddgbojcpmaaDoor.B
end

section
set_option linter.unusedVariables false
set_option linter.unusedSimpArgs false
namespace Go.Proofs.YtjmbddgbojcpmaaDoor.B
open Go.RowKit Go.Proofs.YtjmbddgbojcpmaaDoor.X Go.Proofs.YtjmbddgbojcpmaaDoorW.PrintWords Go.Proofs.YtjmbddgbojcpmaaDoorW.PrintLast

/-! ### what stands behind an escape -/
def hexd : List UInt8 := [48, 49, 50, 51, 52, 53, 54, 55, 56, 57, 97, 98, 99, 100, 101, 102]
/-- the place of a byte among some; -1: it is none -/
def hexv (c : UInt8) : Int := Lib.indexByte hexd c
theorem hexv_range (c : UInt8) : -1 ≤ hexv c ∧ hexv c ≤ 15 := by
  have h : ∀ n : Fin 256, -1 ≤ hexv (UInt8.ofNat n.val) ∧ hexv (UInt8.ofNat n.val) ≤ 15 := by decide +kernel
  have := h ⟨c.toNat, c.toNat_lt⟩
  simpa using this
theorem or_hex (h g : Int) (h0 : 0 ≤ h) (h1 : h ≤ 15) (g0 : 0 ≤ g) (g1 : g ≤ 15) : (Go.bits .or .i64 (wrap64 (h * 16)) g) % 256 = h * 16 + g := by
  obtain ⟨a, rfl⟩ := Int.eq_ofNat_of_zero_le h0
  obtain ⟨b, rfl⟩ := Int.eq_ofNat_of_zero_le g0
  have k : ∀ x y : Fin 16, (Go.bits .or .i64 (wrap64 (((x.val : Nat) : Int) * 16)) ((y.val : Nat) : Int)) % 256 = ((x.val : Nat) : Int) * 16 + ((y.val : Nat) : Int) := by decide +kernel
  exact k ⟨a, by omega⟩ ⟨b, by omega⟩
/-- the byte that is told by an escape, and how many bytes that has -/
def escP : List UInt8 → Option (UInt8 × Nat)
  | [] => none
  | c :: l =>
    if c.toNat = 34 then some (c, 1) else if c.toNat = 92 then some (c, 1) else if c.toNat = 110 then some (10, 1) else if c.toNat = 116 then some (9, 1)
    else match l with
      | h :: g :: _ =>
        if c.toNat = 120 ∧ 0 ≤ hexv h ∧ 0 ≤ hexv g ∧ ¬ (32 ≤ hexv h * 16 + hexv g ∧ hexv h * 16 + hexv g ≤ 126) ∧ hexv h * 16 + hexv g ≠ 10 ∧ hexv h * 16 + hexv g ≠ 9 then some (UInt8.ofNat (hexv h * 16 + hexv g).toNat, 3)
        else none
      | _ => none
/-- as the program tells it -/
def escI (o : Option (UInt8 × Nat)) : Int × Int := match o with
  | some (b, n) => ((b.toNat : Int), (n : Int))
  | none => (0, 0)
theorem idx_hex (s : ByteArray) (i : Nat) (c : UInt8) (h : (by_ s)[i]? = some c) : strings_IndexByte.f (⟨#[48, 49, 50, 51, 52, 53, 54, 55, 56, 57, 97, 98, 99, 100, 101, 102]⟩ : ByteArray) (bt s i) = some (hexv c) := by
  obtain ⟨hl, e⟩ := List.getElem?_eq_some_iff.1 h
  have : bt s i = (c.toNat : Int) := by rw [bt_by s i hl, e]
  rw [this]
  unfold strings_IndexByte.f hexv hexd
  simp
theorem bt_at_ (s : ByteArray) (i : Nat) (c : UInt8) (h : (by_ s)[i]? = some c) : bt s i = (c.toNat : Int) := by
  obtain ⟨hl, e⟩ := List.getElem?_eq_some_iff.1 h
  rw [bt_by s i hl, e]
theorem escaped_ev (s : ByteArray) : Ev (fun k => quote_escaped.f k s) (escI (escP (by_ s))) := by
  have hz := by_length s
  unfold quote_escaped.f
  rw [toList_by]
  cases hs : by_ s with
  | nil => exact Ev.pos rfl (Ev.now _)
  | cons c l =>
    rw [hs] at hz
    simp only [List.length_cons] at hz
    have h0 : bt s 0 = (c.toNat : Int) := bt_at_ s 0 c (by rw [hs]; rfl)
    have hc := c.toNat_lt
    refine Ev.neg (by simp) (Ev.pos (by omega) ?_)
    rw [h0]
    have hj : ∀ b : Bool, b = (decide (c.toNat = 34 ∨ c.toNat = 92)) → Ev (fun k => quote_escaped.j0 k s (c.toNat : Int) b) (escI (escP (c :: l))) := by
      intro b hb
      refine Ev.step (fun _ => rfl) ?_
      simp only [quote_escaped.j0, escP]
      by_cases c1 : c.toNat = 34
      · rw [if_pos c1]
        refine Ev.pos (by rw [hb]; simp [c1]) (Ev.pos (by omega) ?_)
        rw [h0]
        exact Ev.now _
      rw [if_neg c1]
      by_cases c2 : c.toNat = 92
      · rw [if_pos c2]
        refine Ev.pos (by rw [hb]; simp [c2]) (Ev.pos (by omega) ?_)
        rw [h0]
        exact Ev.now _
      rw [if_neg c2]
      refine Ev.neg (by rw [hb]; simp [c1, c2]) ?_
      by_cases c3 : c.toNat = 110
      · rw [if_pos c3]
        exact Ev.pos (by omega) (Ev.now _)
      rw [if_neg c3]
      refine Ev.neg (by omega) ?_
      by_cases c4 : c.toNat = 116
      · rw [if_pos c4]
        exact Ev.pos (by omega) (Ev.now _)
      rw [if_neg c4]
      refine Ev.neg (by omega) ?_
      match l, hs, hz with
      | [], hs, hz => exact Ev.pos (by simp at hz; omega) (Ev.step (f := fun _ => some (0, 0)) (fun _ => by simp [quote_escaped.j1]) (Ev.now _))
      | [_], hs, hz => exact Ev.pos (by simp at hz; omega) (Ev.step (f := fun _ => some (0, 0)) (fun _ => by simp [quote_escaped.j1]) (Ev.now _))
      | h :: g :: r, hs, hz =>
        simp only [List.length_cons] at hz
        refine Ev.neg (by omega) (Ev.pos (by omega) ?_)
        rw [h0]
        refine Ev.step (fun _ => rfl) ?_
        simp only [quote_escaped.j1]
        by_cases c5 : c.toNat = 120
        · refine Ev.neg (by simp [c5]) (Ev.pos (by omega) ?_)
          have i1 := idx_hex s 1 h (by rw [hs]; rfl)
          have i2 := idx_hex s 2 g (by rw [hs]; rfl)
          refine Ev.congr (fun k => by rw [show (1 : Int) = ((1 : Nat) : Int) from rfl, i1, Option.bind_some]) (Ev.pos (by omega) (Ev.congr (fun k => by rw [show (2 : Int) = ((2 : Nat) : Int) from rfl, i2, Option.bind_some]) ?_))
          obtain ⟨hh0, hh1⟩ := hexv_range h
          obtain ⟨hg0, hg1⟩ := hexv_range g
          by_cases hcond : c.toNat = 120 ∧ 0 ≤ hexv h ∧ 0 ≤ hexv g ∧ ¬ (32 ≤ hexv h * 16 + hexv g ∧ hexv h * 16 + hexv g ≤ 126) ∧ hexv h * 16 + hexv g ≠ 10 ∧ hexv h * 16 + hexv g ≠ 9
          · rw [if_pos hcond]
            obtain ⟨_, n1, n2, n3, n4, n5⟩ := hcond
            refine Ev.neg (by omega) (Ev.neg (by omega) ?_)
            rw [or_hex _ _ (by omega) hh1 (by omega) hg1]
            have hw : (((UInt8.ofNat (hexv h * 16 + hexv g).toNat).toNat : Nat) : Int) = hexv h * 16 + hexv g := by
              rw [UInt8.toNat_ofNat']
              omega
            have hr : escI (some (UInt8.ofNat (hexv h * 16 + hexv g).toNat, 3)) = (hexv h * 16 + hexv g, 3) := by
              simp only [escI, hw]
              rfl
            rw [hr]
            by_cases n6 : hexv h * 16 + hexv g ≥ 32
            · exact Ev.pos n6 (Ev.neg (by omega) (Ev.neg n4 (Ev.neg n5 (Ev.now _))))
            · exact Ev.neg n6 (Ev.neg n4 (Ev.neg n5 (Ev.now _)))
          · rw [if_neg hcond]
            by_cases n1 : hexv h < 0
            · exact Ev.pos n1 (Ev.now _)
            refine Ev.neg n1 ?_
            by_cases n2 : hexv g < 0
            · exact Ev.pos n2 (Ev.now _)
            refine Ev.neg n2 ?_
            rw [or_hex _ _ (by omega) hh1 (by omega) hg1]
            by_cases n6 : hexv h * 16 + hexv g ≥ 32
            · refine Ev.pos n6 ?_
              by_cases n7 : hexv h * 16 + hexv g ≤ 126
              · exact Ev.pos n7 (Ev.now _)
              · exact absurd ⟨c5, by omega, by omega, by omega, by omega, by omega⟩ hcond
            · refine Ev.neg n6 ?_
              by_cases n7 : hexv h * 16 + hexv g = 10
              · exact Ev.pos n7 (Ev.now _)
              refine Ev.neg n7 ?_
              by_cases n8 : hexv h * 16 + hexv g = 9
              · exact Ev.pos n8 (Ev.now _)
              · exact absurd ⟨c5, by omega, by omega, by omega, n7, n8⟩ hcond
        · refine Ev.pos (by simp; omega) ?_
          rw [if_neg (by intro h; exact c5 h.1)]
          exact Ev.now _
    by_cases c1 : (c.toNat : Int) = 34
    · exact Ev.pos c1 (hj _ (by rw [Bool.eq_iff_iff]; simp; omega))
    · exact Ev.neg c1 (hj _ (by rw [Bool.eq_iff_iff]; simp; omega))
/-! ### a text in quotes -/
/-- the byte that stands at the begin of what is in quotes, and how many bytes tell it -/
def decP : List UInt8 → Option (UInt8 × Nat)
  | [] => none
  | c :: l => if c.toNat = 92 then (escP l).map fun r => (r.1, r.2 + 1) else if c.toNat < 32 ∨ 126 < c.toNat then none else some (c, 1)
/-- what stands up to the quote that ends it, and how many bytes that has, the quote with it -/
def unqP : List UInt8 → Option (List UInt8 × Nat)
  | [] => none
  | c :: l => if c.toNat = 34 then some ([], 1) else match decP (c :: l) with
    | none => none
    | some (b, n) => (unqP (l.drop (n - 1))).map fun r => (b :: r.1, r.2 + n)
termination_by l => l.length
decreasing_by simp; omega
def getP : List UInt8 → Option (List UInt8 × Nat)
  | [] => none
  | c :: l => if c.toNat = 34 then (unqP l).map fun r => (r.1, r.2 + 1) else none
/-- as the program tells it -/
def getI (o : Option (List UInt8 × Nat)) : ByteArray × Int × Bool := match o with
  | some (t, n) => (⟨t.toArray⟩, (n : Int), true)
  | none => (⟨#[]⟩, 0, false)
def up_ (l : List UInt8) : List Int := l.map fun b => (b.toNat : Int)
theorem nums_up (l : List UInt8) : strOfNums (up_ l) = ⟨l.toArray⟩ := by
  unfold strOfNums up_
  rw [List.map_map]
  congr 2
  conv => rhs; rw [← List.map_id l]
  apply List.map_congr_left
  intro b _
  simp
theorem escP_len {l : List UInt8} {b : UInt8} {n : Nat} (h : escP l = some (b, n)) : 1 ≤ n ∧ n ≤ l.length := by
  match l, h with
  | [], h => simp [escP] at h
  | [c], h =>
    simp only [escP] at h
    repeat' split at h
    all_goals simp at h
    all_goals (obtain ⟨_, rfl⟩ := h; simp)
  | [c, d], h =>
    simp only [escP] at h
    repeat' split at h
    all_goals simp at h
    all_goals (obtain ⟨_, rfl⟩ := h; simp)
  | c :: d :: e :: r, h =>
    simp only [escP] at h
    repeat' split at h
    all_goals simp at h
    all_goals (obtain ⟨_, rfl⟩ := h; simp)
theorem decP_len {l : List UInt8} {b : UInt8} {n : Nat} (h : decP l = some (b, n)) : 1 ≤ n ∧ n ≤ l.length := by
  match l, h with
  | [], h => simp [decP] at h
  | c :: l, h =>
    simp only [decP] at h
    split at h
    · obtain ⟨⟨b2, n2⟩, h2, h3⟩ := Option.map_eq_some_iff.1 h
      have := escP_len h2
      simp at h3
      obtain ⟨_, rfl⟩ := h3
      simp
      omega
    · split at h
      · simp at h
      · simp at h
        obtain ⟨_, rfl⟩ := h
        simp
theorem unqP_len : ∀ (d : Nat) (l : List UInt8) (t : List UInt8) (n : Nat), l.length = d → unqP l = some (t, n) → 1 ≤ n ∧ n ≤ l.length := by
  intro d
  induction d using Nat.strongRecOn with
  | _ d ih =>
    intro l t n hd h
    match l, hd, h with
    | [], _, h => simp [unqP] at h
    | c :: l, hd, h =>
      rw [unqP] at h
      split at h
      · simp at h
        obtain ⟨_, rfl⟩ := h
        simp
      · split at h
        · simp at h
        · rename_i b m hdec
          obtain ⟨⟨t2, n2⟩, h2, h3⟩ := Option.map_eq_some_iff.1 h
          have h4 := decP_len hdec
          simp only [List.length_cons] at hd h4
          have h5 := ih (l.drop (m - 1)).length (by simp; omega) _ t2 n2 rfl h2
          simp at h3 h5
          obtain ⟨_, rfl⟩ := h3
          simp
          omega
theorem w_succ (i : Nat) (h : i < 140737488355328) : wrap64 ((i : Int) + 1) = ((i + 1 : Nat) : Int) := by rw [wrap_in (by omega) (by omega)]; omega
theorem w_skip (i n : Nat) (h : i + n < 140737488355328) : wrap64 (wrap64 ((i : Int) + (n : Int)) + 1) = ((i + n + 1 : Nat) : Int) := by rw [wrap_in (x := (i : Int) + n) (by omega) (by omega), wrap_in (by omega) (by omega)]; omega
set_option maxHeartbeats 1000000 in
theorem get_loop (s : ByteArray) (hs : s.size < 140737488355328) : ∀ (d i : Nat) (acc : List UInt8), s.size - i = d → i ≤ s.size → acc.length ≤ i →
    Ev (fun k => quote_Get.l0 k s (up_ acc) (i : Int)) (getI ((unqP ((by_ s).drop i)).map fun r => (acc ++ r.1, r.2 + i))) := by
  intro d
  induction d using Nat.strongRecOn with
  | _ d ih =>
    intro i acc hd hi ha
    have hz := by_length s
    refine Ev.step (fun _ => rfl) ?_
    simp only [quote_Get.l0]
    by_cases h1 : i < s.size
    · have hl : i < (by_ s).length := by omega
      rw [List.drop_eq_getElem_cons hl]
      have hb := bt_by s i hl
      obtain ⟨c, hc⟩ : ∃ c, (by_ s)[i] = c := ⟨_, rfl⟩
      rw [hc] at hb ⊢
      have hcl := c.toNat_lt
      refine Ev.pos (by omega) (Ev.pos (by omega) ?_)
      rw [hb, unqP]
      have hi2 : i < 140737488355328 := by omega
      by_cases c1 : c.toNat = 34
      · rw [if_pos c1]
        refine Ev.pos (by omega) (Ev.ret ?_)
        simp only [Option.map_some, getI, nums_up, w_succ i hi2, List.append_nil]
        congr 2
        omega
      rw [if_neg c1]
      refine Ev.neg (by omega) ?_
      by_cases c2 : c.toNat = 92
      · refine Ev.pos (by omega) ?_
        rw [w_succ i hi2]
        refine Ev.pos (by omega) (Ev.pos (by omega) ?_)
        have he : by_ (s.extract ((i + 1 : Nat) : Int).toNat s.size) = (by_ s).drop (i + 1) := by
          rw [by_extract, Int.toNat_natCast, List.take_of_length_le (by omega)]
        have hev := escaped_ev (s.extract ((i + 1 : Nat) : Int).toNat s.size)
        rw [he] at hev
        refine Ev.bind hev ?_
        simp only [decP]
        rw [if_pos c2]
        cases hesc : escP ((by_ s).drop (i + 1)) with
        | none => exact Ev.pos rfl (Ev.now _)
        | some r =>
          obtain ⟨b, n⟩ := r
          have hn := escP_len hesc
          rw [List.length_drop] at hn
          have hlt : s.size - (i + n + 1) < d := by clear hs hi2 hb; omega
          have hle : i + n + 1 ≤ s.size := by clear hs hi2 hb; omega
          have hal : (acc ++ [b]).length ≤ i + n + 1 := by clear hs hi2 hb; simp; omega
          have hrec := ih (s.size - (i + n + 1)) hlt (i + n + 1) (acc ++ [b]) rfl hle hal
          have hlen : (up_ acc).length < 140737488355328 := by simp only [up_, List.length_map]; omega
          refine Ev.neg (by simp only [escI]; omega) ?_
          refine Ev.pos hlen ?_
          simp only [escI, Option.map_some]
          have e1 : up_ acc ++ [((b.toNat : Nat) : Int)] = up_ (acc ++ [b]) := by simp [up_]
          rw [w_skip i n (by omega), e1]
          have e2 : (List.drop (i + 1) (by_ s)).drop (n + 1 - 1) = (by_ s).drop (i + n + 1) := by rw [List.drop_drop]; congr 1; omega
          rw [e2]
          have e3 : (Option.map (fun r => (acc ++ r.1, r.2 + i)) (Option.map (fun r => (b :: r.1, r.2 + (n + 1))) (unqP ((by_ s).drop (i + n + 1))))) = (unqP ((by_ s).drop (i + n + 1))).map fun r => ((acc ++ [b]) ++ r.1, r.2 + (i + n + 1)) := by
            rw [Option.map_map]
            congr 1
            funext r
            simp
            omega
          rw [e3]
          exact hrec
      refine Ev.neg (by omega) ?_
      simp only [decP]
      rw [if_neg c2]
      by_cases c3 : c.toNat < 32
      · rw [if_pos (.inl c3)]
        exact Ev.pos (by omega) (Ev.now _)
      refine Ev.neg (by omega) ?_
      by_cases c4 : 126 < c.toNat
      · rw [if_pos (.inr c4)]
        exact Ev.pos (by omega) (Ev.now _)
      have hlen : (up_ acc).length < 140737488355328 := by simp only [up_, List.length_map]; omega
      refine Ev.neg (by omega) ?_
      refine Ev.pos hlen ?_
      rw [if_neg (by omega), w_succ i hi2]
      have e1 : up_ acc ++ [((c.toNat : Nat) : Int)] = up_ (acc ++ [c]) := by simp [up_]
      rw [e1]
      have hrec := ih (s.size - (i + 1)) (by omega) (i + 1) (acc ++ [c]) rfl (by omega) (by simp; omega)
      have e3 : (Option.map (fun r => (acc ++ r.1, r.2 + i)) (Option.map (fun r => (c :: r.1, r.2 + 1)) (unqP (List.drop (1 - 1) ((by_ s).drop (i + 1)))))) = (unqP ((by_ s).drop (i + 1))).map fun r => ((acc ++ [c]) ++ r.1, r.2 + (i + 1)) := by
        rw [Option.map_map, Nat.sub_self, List.drop_zero]
        congr 1
        funext r
        simp
        omega
      simp only
      rw [e3]
      exact hrec
    · rw [List.drop_of_length_le (by omega), unqP]
      exact Ev.neg (by omega) (Ev.now _)
theorem get_ev (s : ByteArray) (hs : s.size < 140737488355328) : Ev (fun k => quote_Get.f k s) (getI (getP (by_ s))) := by
  have hz := by_length s
  unfold quote_Get.f
  rw [toList_by]
  cases hb : by_ s with
  | nil => exact Ev.pos rfl (Ev.step (f := fun _ => some (⟨#[]⟩, 0, false)) (fun _ => by simp [quote_Get.j0]) (Ev.now _))
  | cons c l =>
    rw [hb] at hz
    simp only [List.length_cons] at hz
    have h0 : bt s 0 = (c.toNat : Int) := bt_at_ s 0 c (by rw [hb]; rfl)
    refine Ev.neg (by simp) (Ev.pos (by omega) (Ev.step (fun _ => rfl) ?_))
    simp only [quote_Get.j0, getP, h0]
    by_cases c1 : c.toNat = 34
    · rw [if_pos c1]
      refine Ev.neg (by simp; omega) ?_
      have h := get_loop s hs (s.size - 1) 1 [] rfl (by omega) (by simp)
      rw [hb] at h
      have e0 : (Option.map (fun r => (([] : List UInt8) ++ r.1, r.2 + 1)) (unqP (List.drop 1 (c :: l)))) = (unqP l).map fun r => (r.1, r.2 + 1) := by simp
      rw [e0] at h
      exact h
    · rw [if_neg c1]
      exact Ev.pos (by simp; omega) (Ev.now _)
end Go.Proofs.YtjmbddgbojcpmaaDoor.B
end

section
set_option linter.unusedVariables false
set_option linter.unusedSimpArgs false
namespace Go.Proofs.YtjmbddgbojcpmaaDoor.B
open Go.RowKit Go.Proofs.YtjmbddgbojcpmaaDoor.X Go.Proofs.YtjmbddgbojcpmaaDoorW.PrintWords Go.Proofs.YtjmbddgbojcpmaaDoorW.PrintLast

/-! ### names -/
def nameC (c : UInt8) : Bool := c.toNat == 95 || (48 ≤ c.toNat && c.toNat ≤ 57) || (65 ≤ c.toNat && c.toNat ≤ 90) || (97 ≤ c.toNat && c.toNat ≤ 122)
def nameP : List UInt8 → Bool
  | [] => false
  | c :: l => decide (l.length < 32) && !(48 ≤ c.toNat && c.toNat ≤ 57) && (c :: l).all nameC
theorem nameC_no (c : UInt8) : nameC c = false ↔ c.toNat ≠ 95 ∧ (c.toNat < 48 ∨ 57 < c.toNat) ∧ (c.toNat < 65 ∨ Go.bits .or .u8 (c.toNat : Int) 32 < 97 ∨ 122 < Go.bits .or .u8 (c.toNat : Int) 32) := by
  have h : ∀ n : Fin 256, nameC (UInt8.ofNat n.val) = false ↔ (UInt8.ofNat n.val).toNat ≠ 95 ∧ ((UInt8.ofNat n.val).toNat < 48 ∨ 57 < (UInt8.ofNat n.val).toNat) ∧ ((UInt8.ofNat n.val).toNat < 65 ∨ Go.bits .or .u8 ((UInt8.ofNat n.val).toNat : Int) 32 < 97 ∨ 122 < Go.bits .or .u8 ((UInt8.ofNat n.val).toNat : Int) 32) := by decide +kernel
  have := h ⟨c.toNat, c.toNat_lt⟩
  simpa using this
theorem name_loop (s : ByteArray) (hz : s.size ≤ 32) : ∀ (d i : Nat), s.size - i = d → i ≤ s.size →
    Ev (fun k => label_Name.l0 k (bytesOf s) ((bytesOf s).length : Int) (i : Int)) (((by_ s).drop i).all nameC)
  | 0, i, hd, hi => by
    have hb := by_length s
    have hl := bytesOf_length s
    refine Ev.step (fun _ => rfl) ?_
    simp only [label_Name.l0]
    rw [List.drop_of_length_le (by omega)]
    exact Ev.neg (by omega) (Ev.now _)
  | d + 1, i, hd, hi => by
    have hb := by_length s
    have hl := bytesOf_length s
    have hlt : i < (by_ s).length := by omega
    refine Ev.step (fun _ => rfl) ?_
    simp only [label_Name.l0]
    have ih := name_loop s hz d (i + 1) (by omega) (by omega)
    have hc : rd (bytesOf s) (i : Int) = (((by_ s)[i]).toNat : Int) := by rw [rd_bytesOf, bt_by s i hlt]
    rw [List.drop_eq_getElem_cons hlt, List.all_cons, w_succ i (by omega), hc]
    obtain ⟨c, hcc⟩ : ∃ c, (by_ s)[i] = c := ⟨_, rfl⟩
    rw [hcc]
    refine Ev.pos (by omega) (Ev.pos (by omega) (Ev.pos (by omega) ?_))
    by_cases hn : nameC c = true
    · rw [hn, Bool.true_and]
      have h2 : ¬ (c.toNat ≠ 95 ∧ (c.toNat < 48 ∨ 57 < c.toNat) ∧ (c.toNat < 65 ∨ Go.bits .or .u8 (c.toNat : Int) 32 < 97 ∨ 122 < Go.bits .or .u8 (c.toNat : Int) 32)) := fun h => by rw [(nameC_no c).mpr h] at hn; cases hn
      by_cases c1 : (c.toNat : Int) = 95
      · exact Ev.pos c1 ih
      refine Ev.neg c1 ?_
      by_cases c2 : (c.toNat : Int) < 48
      · refine Ev.pos c2 (Ev.neg (by omega) (Ev.neg (by omega) (Ev.neg (by omega) ih)))
      refine Ev.neg c2 ?_
      by_cases c3 : (c.toNat : Int) > 57
      · refine Ev.pos c3 (Ev.neg (by omega) (Ev.neg (by omega) (Ev.neg (by omega) ih)))
      · exact Ev.neg c3 ih
    · rw [Bool.not_eq_true] at hn
      obtain ⟨h1, h2, h3⟩ := (nameC_no c).mp hn
      rw [hn, Bool.false_and]
      refine Ev.neg (by omega) ?_
      by_cases c2 : (c.toNat : Int) < 48
      · refine Ev.pos c2 ?_
        by_cases c4 : (c.toNat : Int) < 65
        · exact Ev.pos c4 (Ev.now _)
        · omega
      refine Ev.neg c2 (Ev.pos (by omega) ?_)
      by_cases c4 : (c.toNat : Int) < 65
      · exact Ev.pos c4 (Ev.now _)
      refine Ev.neg c4 ?_
      by_cases c5 : Go.bits .or .u8 (c.toNat : Int) 32 < 97
      · exact Ev.pos c5 (Ev.now _)
      · exact Ev.neg c5 (Ev.pos (by omega) (Ev.now _))
theorem name_ev (s : ByteArray) : Ev (fun k => label_Name.f k s) (nameP (by_ s)) := by
  have hb := by_length s
  have hno : Ev (fun k => label_Name.j0 k s true) false := Ev.step (f := fun _ => some false) (fun _ => by simp [label_Name.j0]) (Ev.now _)
  unfold label_Name.f
  rw [toList_by]
  cases hs : by_ s with
  | nil => exact Ev.pos rfl hno
  | cons c l =>
    rw [hs] at hb
    simp only [List.length_cons] at hb
    have h0 : bt s 0 = (c.toNat : Int) := bt_at_ s 0 c (by rw [hs]; rfl)
    refine Ev.neg (by simp) ?_
    by_cases h32 : (s.size : Int) > 32
    · refine Ev.pos h32 ?_
      have e : nameP (c :: l) = false := by simp only [nameP]; rw [decide_eq_false (by omega)]; rfl
      rw [e]
      exact hno
    refine Ev.neg h32 (Ev.pos (by omega) ?_)
    have hyes : Ev (fun k => label_Name.j0 k s false) ((c :: l).all nameC) := by
      refine Ev.step (fun _ => rfl) ?_
      simp only [label_Name.j0]
      have h := name_loop s (by omega) s.size 0 rfl (by omega)
      rw [List.drop_zero, hs] at h
      exact Ev.neg (by simp) (Ev.pos (by omega) (Ev.one h))
    rw [h0]
    have e0 : decide (l.length < 32) = true := decide_eq_true (by omega)
    simp only [nameP, e0, Bool.true_and]
    by_cases c1 : (c.toNat : Int) ≥ 48
    · refine Ev.pos c1 ?_
      by_cases c2 : (c.toNat : Int) ≤ 57
      · rw [decide_eq_true c2, decide_eq_true (show 48 ≤ c.toNat by omega), decide_eq_true (show c.toNat ≤ 57 by omega)]
        exact hno
      · rw [decide_eq_false c2, decide_eq_false (show ¬ c.toNat ≤ 57 by omega), Bool.and_false, Bool.not_false, Bool.true_and]
        exact hyes
    · refine Ev.neg c1 ?_
      rw [decide_eq_false (show ¬ 48 ≤ c.toNat by omega), Bool.false_and, Bool.not_false, Bool.true_and]
      exact hyes
end Go.Proofs.YtjmbddgbojcpmaaDoor.B
end

section
set_option linter.unusedVariables false
set_option linter.unusedSimpArgs false
namespace Go.Proofs.YtjmbddgbojcpmaaDoor.B
open Go.RowKit Go.Proofs.YtjmbddgbojcpmaaDoor.X Go.Proofs.YtjmbddgbojcpmaaDoorW.PrintWords Go.Proofs.YtjmbddgbojcpmaaDoorW.PrintLast

/-! ### how names stand -/
/-- one name ahead of another one -/
def nl (a b : ByteArray) : Prop := Op.bytesLess (by_ a) (by_ b) = true
instance (a b : ByteArray) : Decidable (nl a b) := inferInstanceAs (Decidable (_ = true))
theorem cmpB : ∀ (a b : List UInt8), (Op.bytesLess a b = true ∧ Lib.compareBytes a b = -1) ∨ (a = b ∧ Lib.compareBytes a b = 0) ∨ (Op.bytesLess b a = true ∧ Lib.compareBytes a b = 1)
  | [], [] => .inr (.inl ⟨rfl, rfl⟩)
  | [], _ :: _ => .inl ⟨rfl, rfl⟩
  | _ :: _, [] => .inr (.inr ⟨rfl, rfl⟩)
  | x :: a, y :: b => by
    simp only [Op.bytesLess, Lib.compareBytes]
    by_cases h1 : x < y
    · exact .inl ⟨by simp [h1], by simp [h1]⟩
    · by_cases h2 : y < x
      · exact .inr (.inr ⟨by simp [h2], by simp [h1, h2]⟩)
      · have e : x = y := by
          rw [UInt8.lt_iff_toNat_lt] at h1 h2
          exact UInt8.toNat_inj.1 (by omega)
        subst e
        rw [if_neg h1, if_neg h1]
        rcases cmpB a b with h | h | h
        · exact .inl ⟨by simp [h.1], h.2⟩
        · exact .inr (.inl ⟨by rw [h.1], h.2⟩)
        · exact .inr (.inr ⟨by simp [h.1], h.2⟩)
theorem less_trans : ∀ {a b c : List UInt8}, Op.bytesLess a b = true → Op.bytesLess b c = true → Op.bytesLess a c = true
  | _, _, [], _, h => by simp [Op.bytesLess] at h
  | _, [], _ :: _, h, _ => by simp [Op.bytesLess] at h
  | [], _ :: _, _ :: _, _, _ => rfl
  | x :: a, y :: b, z :: c, h1, h2 => by
    simp only [Op.bytesLess, Bool.or_eq_true, decide_eq_true_eq, Bool.and_eq_true, beq_iff_eq, UInt8.lt_iff_toNat_lt] at h1 h2 ⊢
    rcases h1 with h1 | ⟨e1, h1⟩
    · rcases h2 with h2 | ⟨e2, h2⟩
      · exact .inl (by omega)
      · exact .inl (by rw [← e2]; exact h1)
    · rcases h2 with h2 | ⟨e2, h2⟩
      · exact .inl (by rw [e1]; exact h2)
      · exact .inr ⟨e1.trans e2, less_trans h1 h2⟩
theorem nl_irrefl (a : ByteArray) : ¬ nl a a := fun h => x_less_ne h rfl
theorem nl_asym {a b : ByteArray} (h : nl a b) : ¬ nl b a := fun h2 => by
  have := x_less_asym h
  rw [h2] at this
  cases this
theorem nl_trans {a b c : ByteArray} (h : nl a b) (h2 : nl b c) : nl a c := less_trans h h2
theorem nl_tri {a b : ByteArray} (h : ¬ nl a b) (h2 : ¬ nl b a) : a = b := by
  apply by_ext
  exact x_less_tri (Bool.not_eq_true _ ▸ h) (Bool.not_eq_true _ ▸ h2)
theorem names_f (a b c d : ByteArray) : ∃ r, label_names.f a b c d = some r ∧ (r < 0 ↔ nl a c) ∧ (r = 0 ↔ a = c) := by
  refine ⟨Lib.compareBytes (by_ a) (by_ c), ?_, ?_, ?_⟩
  · unfold label_names.f strings_Compare.f
    rfl
  · rcases cmpB (by_ a) (by_ c) with h | h | h
    · rw [h.2]
      exact ⟨fun _ => h.1, fun _ => by omega⟩
    · rw [h.2]
      exact ⟨fun h => by omega, fun h2 => absurd h.1 (x_less_ne h2)⟩
    · rw [h.2]
      exact ⟨fun h => by omega, fun h2 => absurd h2 (nl_asym (a := c) (b := a) h.1)⟩
  · rcases cmpB (by_ a) (by_ c) with h | h | h
    · rw [h.2]
      exact ⟨fun h => by omega, fun e => by subst e; exact absurd h.1 (nl_irrefl a)⟩
    · rw [h.2]
      exact ⟨fun _ => by_ext h.1, fun _ => rfl⟩
    · rw [h.2]
      exact ⟨fun h => by omega, fun e => by subst e; exact absurd h.1 (nl_irrefl a)⟩
/-! ### sets: each name once, rising -/
abbrev Lab := S48
def Rise (l : List Lab) : Prop := l.Pairwise fun a b => nl a.f0 b.f0
/-- how many stand ahead of a name -/
def posP (l : List Lab) (n : ByteArray) : Nat := (l.takeWhile fun x => decide (nl x.f0 n)).length
theorem posP_le (l : List Lab) (n : ByteArray) : posP l n ≤ l.length := (List.takeWhile_sublist _).length_le
theorem posP_lt : ∀ (l : List Lab) (n : ByteArray) (i : Nat) (h : i < l.length), i < posP l n → nl l[i].f0 n
  | x :: l, n, i, h, hi => by
    unfold posP at hi
    rw [List.takeWhile_cons] at hi
    split at hi
    · rename_i hx
      cases i with
      | zero => simpa using hx
      | succ i => exact posP_lt l n i (by simpa using h) (by simpa [posP] using hi)
    · simp at hi
theorem posP_ge : ∀ (l : List Lab) (hr : Rise l) (n : ByteArray) (i : Nat) (h : i < l.length), posP l n ≤ i → ¬ nl l[i].f0 n
  | x :: l, hr, n, i, h, hi => by
    unfold posP at hi
    rw [List.takeWhile_cons] at hi
    unfold Rise at hr
    rw [List.pairwise_cons] at hr
    split at hi
    · cases i with
      | zero => simp at hi
      | succ i => exact posP_ge l hr.2 n i (by simpa using h) (by simpa [posP] using hi)
    · rename_i hx
      have hx' : ¬ nl x.f0 n := by simpa using hx
      cases i with
      | zero => exact hx'
      | succ i =>
        have hi' : i < l.length := by simpa using h
        have h1 := hr.1 l[i] (List.getElem_mem hi')
        exact fun h2 => hx' (nl_trans h1 h2)
theorem posP_is (l : List Lab) (hr : Rise l) (n : ByteArray) (r : Nat) (hr1 : r ≤ l.length) (h1 : ∀ i (h : i < l.length), i < r → nl l[i].f0 n) (h2 : ∀ i (h : i < l.length), r ≤ i → ¬ nl l[i].f0 n) : r = posP l n := by
  have hp := posP_le l n
  rcases Nat.lt_trichotomy r (posP l n) with h | h | h
  · exact absurd (posP_lt l n r (by omega) h) (h2 r (by omega) (Nat.le_refl _))
  · exact h
  · exact absurd (h1 (posP l n) (by omega) h) (posP_ge l hr n _ (by omega) (Nat.le_refl _))
theorem rdLab (l : List Lab) (i : Nat) (h : i < l.length) : rd_T48 l (i : Int) = l[i] := by simp [rd_T48, h]
theorem mid_w (i j : Nat) (h : i + j < 4611686018427387904) : wrap64 ((IntKind.u64.wrap (wrap64 ((i : Int) + (j : Int)))) / 2) = (((i + j) / 2 : Nat) : Int) := by
  have e1 : wrap64 ((i : Int) + (j : Int)) = ((i + j : Nat) : Int) := by rw [wrap_in] <;> omega
  have e2 : IntKind.u64.wrap ((i + j : Nat) : Int) = ((i + j : Nat) : Int) := by
    unfold IntKind.wrap
    simp [IntKind.bits, IntKind.signed]
    omega
  rw [e1, e2, wrap_in] <;> omega
theorem search_loop (l : List Lab) (hl : l.length < 1000000000) (hr : Rise l) (n v : ByteArray) : ∀ (d i j : Nat), j - i ≤ d → i ≤ j → j ≤ l.length → (∀ m (h : m < l.length), m < i → nl l[m].f0 n) → (∀ m (h : m < l.length), j ≤ m → ¬ nl l[m].f0 n) →
    Ev (fun k => label_Pair_label_names.l0 k l (l.length : Int) (i : Int) (j : Int) n v) ((posP l n : Int), if h : posP l n < l.length then decide (l[posP l n].f0 = n) else false) := by
  intro d
  induction d with
  | zero =>
    intro i j hd hij hj h1 h2
    have e : i = j := by omega
    subst e
    have hp := posP_is l hr n i hj h1 h2
    refine Ev.step (fun _ => rfl) ?_
    simp only [label_Pair_label_names.l0]
    refine Ev.neg (by omega) ?_
    rw [← hp]
    by_cases hlt : i < l.length
    · obtain ⟨r, hf, _, h0⟩ := names_f l[i].f0 l[i].f1 n v
      rw [rdLab l i hlt, hf, dif_pos hlt]
      refine Ev.pos (by omega) (Ev.pos (by omega) (Ev.pos (by omega) (Ev.one (Ev.ret ?_))))
      congr 1
      rw [Bool.eq_iff_iff, beq_iff_eq, decide_eq_true_eq]
      exact h0
    · rw [dif_neg hlt]
      exact Ev.neg (by omega) (Ev.now _)
  | succ d ih =>
    intro i j hd hij hj h1 h2
    by_cases hlt : i < j
    · obtain ⟨m, hm⟩ : ∃ m, (i + j) / 2 = m := ⟨_, rfl⟩
      have hmi : i ≤ m ∧ m < j := by omega
      have hml : m < l.length := by omega
      obtain ⟨r, hf, hneg, _⟩ := names_f l[m].f0 l[m].f1 n v
      refine Ev.step (fun _ => rfl) ?_
      simp only [label_Pair_label_names.l0]
      rw [mid_w i j (by omega), hm, rdLab l m hml, hf, w1 m (by omega)]
      refine Ev.pos (by omega) (Ev.pos (by omega) (Ev.pos (by omega) (Ev.one ?_)))
      by_cases hc : r < 0
      · refine Ev.pos hc (ih (m + 1) j (by omega) (by omega) hj (fun q hq hqm => ?_) h2)
        have hx := hneg.1 hc
        rcases Nat.lt_or_ge q m with h | h
        · exact nl_trans ((List.pairwise_iff_getElem.1 hr) q m hq hml h) hx
        · have : q = m := by omega
          subst this
          exact hx
      · refine Ev.neg hc (ih i m (by omega) (by omega) (by omega) h1 (fun q hq hqm => ?_))
        have hx : ¬ nl l[m].f0 n := fun h => hc (hneg.2 h)
        rcases Nat.lt_or_ge m q with h | h
        · exact fun h3 => hx (nl_trans ((List.pairwise_iff_getElem.1 hr) m q hml hq h) h3)
        · have : q = m := by omega
          subst this
          exact hx
    · have e : i = j := by omega
      subst e
      exact ih i i (by omega) (Nat.le_refl _) hj h1 h2
end Go.Proofs.YtjmbddgbojcpmaaDoor.B
end

section
set_option linter.unusedVariables false
set_option linter.unusedSimpArgs false
namespace Go.Proofs.YtjmbddgbojcpmaaDoor.B
open Go.RowKit Go.Proofs.YtjmbddgbojcpmaaDoor.X Go.Proofs.YtjmbddgbojcpmaaDoorW.PrintWords Go.Proofs.YtjmbddgbojcpmaaDoorW.PrintLast

/-- one label more -/
def stepP (l : List Lab) (p : Lab) : List Lab :=
  if h : posP l p.f0 < l.length then if l[posP l p.f0].f0 = p.f0 then l.set (posP l p.f0) p else l.take (posP l p.f0) ++ [p] ++ l.drop (posP l p.f0)
  else l ++ [p]
theorem rise_cons {x : Lab} {l : List Lab} (h : Rise (x :: l)) : (∀ y ∈ l, nl x.f0 y.f0) ∧ Rise l := by
  unfold Rise at h
  rwa [List.pairwise_cons] at h
theorem stepP_cons (x : Lab) (l : List Lab) (p : Lab) : stepP (x :: l) p = if nl x.f0 p.f0 then x :: stepP l p else if x.f0 = p.f0 then p :: l else p :: x :: l := by
  unfold stepP posP
  by_cases h : nl x.f0 p.f0
  · rw [if_pos h]
    simp only [List.takeWhile_cons, decide_eq_true h, if_true, List.length_cons, Nat.add_lt_add_iff_right, List.getElem_cons_succ, List.set_cons_succ, List.take_succ_cons, List.drop_succ_cons, List.cons_append]
    split
    · split <;> rfl
    · rfl
  · rw [if_neg h]
    simp only [List.takeWhile_cons, decide_eq_false h, if_false, List.length_nil, List.length_cons, Bool.false_eq_true, Nat.zero_lt_succ, dite_true, List.getElem_cons_zero, List.set_cons_zero, List.take_zero, List.drop_zero, List.nil_append, List.singleton_append]
theorem stepP_mem : ∀ (l : List Lab) (p y : Lab), y ∈ stepP l p → y = p ∨ y ∈ l
  | [], p, y, h => .inl (List.mem_singleton.1 h)
  | x :: l, p, y, h => by
    rw [stepP_cons] at h
    split at h
    · rcases List.mem_cons.1 h with rfl | h
      · exact .inr (by simp)
      · rcases stepP_mem l p y h with h | h
        · exact .inl h
        · exact .inr (by simp [h])
    · split at h
      · rcases List.mem_cons.1 h with rfl | h
        · exact .inl rfl
        · exact .inr (by simp [h])
      · rcases List.mem_cons.1 h with rfl | h
        · exact .inl rfl
        · exact .inr h
theorem stepP_rise : ∀ (l : List Lab) (p : Lab), Rise l → Rise (stepP l p)
  | [], p, _ => List.pairwise_singleton ..
  | x :: l, p, h => by
    obtain ⟨h1, h2⟩ := rise_cons h
    rw [stepP_cons]
    split
    · rename_i hx
      refine List.pairwise_cons.2 ⟨fun y hy => ?_, stepP_rise l p h2⟩
      rcases stepP_mem l p y hy with rfl | hy
      · exact hx
      · exact h1 y hy
    · rename_i hx
      split
      · rename_i he
        exact List.pairwise_cons.2 ⟨fun y hy => by rw [← he]; exact h1 y hy, h2⟩
      · rename_i hne
        have hpx : nl p.f0 x.f0 := by
          by_cases h3 : nl p.f0 x.f0
          · exact h3
          · exact absurd (nl_tri hx h3) hne
        refine List.pairwise_cons.2 ⟨fun y hy => ?_, h⟩
        rcases List.mem_cons.1 hy with rfl | hy
        · exact hpx
        · exact nl_trans hpx (h1 y hy)
theorem stepP_length (l : List Lab) (p : Lab) : (stepP l p).length ≤ l.length + 1 := by
  induction l with
  | nil => exact Nat.le_refl _
  | cons x l ih =>
    rw [stepP_cons]
    split
    · simp only [List.length_cons]
      omega
    · split <;> simp
/-! ### label.Of -/
def ofP (l : List Lab) (L : List Lab) : List Lab := L.foldl (fun a p => if nameP (by_ p.f0) = true then stepP a p else a) l
theorem ofP_rise : ∀ (L l : List Lab), Rise l → Rise (ofP l L)
  | [], _, h => h
  | p :: L, l, h => by
    unfold ofP
    rw [List.foldl_cons]
    refine ofP_rise L _ ?_
    split
    · exact stepP_rise l p h
    · exact h
theorem ofP_length : ∀ (L l : List Lab), (ofP l L).length ≤ l.length + L.length
  | [], _ => Nat.le_refl _
  | p :: L, l => by
    have h := ofP_length L (if nameP (by_ p.f0) = true then stepP l p else l)
    have h2 := stepP_length l p
    unfold ofP at h ⊢
    rw [List.foldl_cons, List.length_cons]
    by_cases hn : nameP (by_ p.f0) = true
    · rw [if_pos hn] at h ⊢
      omega
    · rw [if_neg hn] at h ⊢
      omega
theorem of_loop (L : List Lab) (hL : L.length ≤ 1000000) : ∀ (d i : Nat) (l : List Lab), L.length - i = d → i ≤ L.length → l.length ≤ i → Rise l →
    Ev (fun k => label_Of.l0 k l L (L.length : Int) (i : Int)) (ofP l (L.drop i)) := by
  intro d
  induction d with
  | zero =>
    intro i l hd hi hl hr
    refine Ev.step (fun _ => rfl) ?_
    simp only [label_Of.l0]
    rw [List.drop_of_length_le (by omega)]
    exact Ev.neg (by omega) (Ev.now _)
  | succ d ih =>
    intro i l hd hi hl hr
    have hlt : i < L.length := by omega
    obtain ⟨p, hp⟩ : ∃ p, L[i] = p := ⟨_, rfl⟩
    rw [List.drop_eq_getElem_cons hlt, hp]
    have hpl := posP_le l p.f0
    have hs := search_loop l (by omega) hr p.f0 p.f1 l.length 0 l.length (by omega) (Nat.zero_le _) (Nat.le_refl _) (fun m _ h => absurd h (Nat.not_lt_zero m)) (fun m h h2 => by omega)
    refine Ev.step (fun _ => rfl) ?_
    simp only [label_Of.l0]
    rw [rdLab L i hlt, hp, w1 i (by omega)]
    refine Ev.pos (by omega) (Ev.pos (by omega) (Ev.pos (by omega) (Ev.bind (name_ev p.f0) ?_)))
    unfold ofP
    rw [List.foldl_cons]
    by_cases hn : nameP (by_ p.f0) = true
    · rw [if_pos hn]
      refine Ev.pos hn (Ev.bind hs ?_)
      have ih' := ih (i + 1) (stepP l p) (by omega) (by omega) (by have := stepP_length l p; omega) (stepP_rise l p hr)
      unfold ofP at ih'
      dsimp only
      by_cases hlt2 : posP l p.f0 < l.length
      · rw [dif_pos hlt2]
        by_cases he : l[posP l p.f0].f0 = p.f0
        · have e : stepP l p = l.set (posP l p.f0) p := by unfold stepP; rw [dif_pos hlt2, if_pos he]
          rw [e] at ih' ⊢
          rw [Int.toNat_natCast]
          exact Ev.pos (decide_eq_true he) (Ev.pos (by omega) (Ev.pos (by omega) ih'))
        · have e : stepP l p = l.take (posP l p.f0) ++ [p] ++ l.drop (posP l p.f0) := by unfold stepP; rw [dif_pos hlt2, if_neg he]
          have e2 : label_Pair.f l (posP l p.f0 : Int) [p] = some (stepP l p) := by
            unfold label_Pair.f
            rw [if_pos ⟨by omega, by omega, rfl, by omega⟩, Int.toNat_natCast, e]
          refine Ev.neg (by rw [decide_eq_true_eq]; exact he) ?_
          show Ev (fun k => (label_Pair.f l (posP l p.f0 : Int) [p]).bind fun t => label_Of.l0 k t L (L.length : Int) ((i + 1 : Nat) : Int)) _
          rw [e2]
          exact Ev.one ih'
      · rw [dif_neg hlt2]
        have e0 : posP l p.f0 = l.length := by omega
        have e : stepP l p = l ++ [p] := by unfold stepP; rw [dif_neg hlt2]
        have e2 : label_Pair.f l (posP l p.f0 : Int) [p] = some (stepP l p) := by
          unfold label_Pair.f
          rw [if_pos ⟨by omega, by omega, rfl, by omega⟩, Int.toNat_natCast, e0, List.take_length, List.drop_length, List.append_nil, e]
        refine Ev.neg (by decide) ?_
        show Ev (fun k => (label_Pair.f l (posP l p.f0 : Int) [p]).bind fun t => label_Of.l0 k t L (L.length : Int) ((i + 1 : Nat) : Int)) _
        rw [e2]
        exact Ev.one ih'
    · rw [if_neg hn]
      have ih' := ih (i + 1) l (by omega) (by omega) (by omega) hr
      unfold ofP at ih'
      exact Ev.neg hn ih'
theorem of_ev (L : List Lab) (hL : L.length ≤ 1000000) : Ev (fun k => label_Of.f k L) (ofP [] L) := by
  have h := of_loop L hL L.length 0 [] rfl (Nat.zero_le _) (Nat.zero_le _) List.Pairwise.nil
  rw [List.drop_zero] at h
  exact h
end Go.Proofs.YtjmbddgbojcpmaaDoor.B
end

section
set_option linter.unusedVariables false
set_option linter.unusedSimpArgs false
namespace Go.Proofs.YtjmbddgbojcpmaaDoor.B
open Go.RowKit Go.Proofs.YtjmbddgbojcpmaaDoor.X Go.Proofs.YtjmbddgbojcpmaaDoorW.PrintWords Go.Proofs.YtjmbddgbojcpmaaDoorW.PrintLast

/-! ### are two the same? -/
instance : DecidableEq Lab := fun a b =>
  if h : a.f0 = b.f0 ∧ a.f1 = b.f1 then isTrue (by
    cases a
    cases b
    simp only at h
    rw [h.1, h.2]) else isFalse (fun e => h (by rw [e]; exact ⟨rfl, rfl⟩))
/-! ### with more -/
end Go.Proofs.YtjmbddgbojcpmaaDoor.B
end

section
set_option linter.unusedVariables false
set_option linter.unusedSimpArgs false
namespace Go.Proofs.YtjmbddgbojcpmaaDoor.B
open Go.RowKit Go.Proofs.YtjmbddgbojcpmaaDoor.X Go.Proofs.YtjmbddgbojcpmaaDoorW.PrintWords Go.Proofs.YtjmbddgbojcpmaaDoorW.PrintLast

def cB (a b : ByteArray) : Int := Lib.compareBytes (by_ a) (by_ b)
/-- how two of one kind stand: one of three, none just for the same, the other way round the contrary; it does not go round -/
structure Stands {α : Type} (c : α → α → Int) : Prop where
  one : ∀ a b, c a b = -1 ∨ c a b = 0 ∨ c a b = 1
  eq : ∀ a b, c a b = 0 ↔ a = b
  flip : ∀ a b, c a b = - c b a
  round : ∀ a b d, c a b = -1 → c b d = -1 → c a d = -1
theorem cB_stands : Stands cB where
  one a b := by unfold cB; rcases cmpB (by_ a) (by_ b) with h | h | h <;> rw [h.2] <;> simp
  eq a b := by
    unfold cB
    rcases cmpB (by_ a) (by_ b) with h | h | h
    · rw [h.2]
      exact ⟨fun h => by omega, fun e => by subst e; exact absurd h.1 (nl_irrefl a)⟩
    · rw [h.2]
      exact ⟨fun _ => by_ext h.1, fun _ => rfl⟩
    · rw [h.2]
      exact ⟨fun h => by omega, fun e => by subst e; exact absurd h.1 (nl_irrefl a)⟩
  flip a b := by
    unfold cB
    rcases cmpB (by_ a) (by_ b) with h | h | h <;> rcases cmpB (by_ b) (by_ a) with h2 | h2 | h2
    · exact absurd h2.1 (nl_asym (a := a) (b := b) h.1)
    · exact absurd h2.1.symm (x_less_ne h.1)
    · simp [h.2, h2.2]
    · exact absurd h.1.symm (x_less_ne h2.1)
    · simp [h.2, h2.2]
    · exact absurd h.1 (x_less_ne h2.1)
    · simp [h.2, h2.2]
    · exact absurd h2.1 (x_less_ne h.1)
    · exact absurd h2.1 (nl_asym (a := b) (b := a) h.1)
  round a b d h1 h2 := by
    unfold cB at h1 h2 ⊢
    have l1 : nl a b := by
      rcases cmpB (by_ a) (by_ b) with h | h | h
      · exact h.1
      · rw [h.2] at h1; cases h1
      · rw [h.2] at h1; cases h1
    have l2 : nl b d := by
      rcases cmpB (by_ b) (by_ d) with h | h | h
      · exact h.1
      · rw [h.2] at h2; cases h2
      · rw [h.2] at h2; cases h2
    rcases cmpB (by_ a) (by_ d) with h | h | h
    · exact h.2
    · exact absurd h.1 (x_less_ne (nl_trans l1 l2))
    · exact absurd h.1 (nl_asym (nl_trans l1 l2))
def cL (x y : Lab) : Int := if cB x.f0 y.f0 = 0 then cB x.f1 y.f1 else cB x.f0 y.f0
theorem cL_stands : Stands cL where
  one a b := by
    unfold cL
    split
    · exact cB_stands.one _ _
    · exact cB_stands.one _ _
  eq a b := by
    unfold cL
    have e0 := cB_stands.eq a.f0 b.f0
    have e1 := cB_stands.eq a.f1 b.f1
    by_cases h : cB a.f0 b.f0 = 0
    · rw [if_pos h]
      refine ⟨fun h2 => ?_, fun e => by rw [e] at e1 ⊢; exact e1.2 rfl⟩
      have h3 := e0.1 h
      have h4 := e1.1 h2
      cases a
      cases b
      simp only at h3 h4
      rw [h3, h4]
    · rw [if_neg h]
      exact ⟨fun h2 => absurd h2 h, fun e => by rw [e] at e0 ⊢; exact e0.2 rfl⟩
  flip a b := by
    unfold cL
    have f0 := cB_stands.flip a.f0 b.f0
    have f1 := cB_stands.flip a.f1 b.f1
    by_cases h : cB a.f0 b.f0 = 0
    · rw [if_pos h, if_pos (by omega), f1]
    · rw [if_neg h, if_neg (by omega), f0]
  round a b d h1 h2 := by
    unfold cL at h1 h2 ⊢
    by_cases g1 : cB a.f0 b.f0 = 0
    · rw [if_pos g1] at h1
      rw [(cB_stands.eq _ _).1 g1]
      by_cases g2 : cB b.f0 d.f0 = 0
      · rw [if_pos g2] at h2 ⊢
        exact cB_stands.round _ _ _ h1 h2
      · rw [if_neg g2] at h2 ⊢
        exact h2
    · rw [if_neg g1] at h1
      by_cases g2 : cB b.f0 d.f0 = 0
      · rw [← (cB_stands.eq _ _).1 g2, if_neg g1]
        exact h1
      · rw [if_neg g2] at h2
        have := cB_stands.round _ _ _ h1 h2
        rw [this]
        rfl
def ordL : List Lab → List Lab → Int
  | [], [] => 0
  | [], _ :: _ => -1
  | _ :: _, [] => 1
  | x :: a, y :: b => if cL x y = 0 then ordL a b else cL x y
theorem ordL_one : ∀ a b, ordL a b = -1 ∨ ordL a b = 0 ∨ ordL a b = 1
  | [], [] => by simp [ordL]
  | [], _ :: _ => by simp [ordL]
  | _ :: _, [] => by simp [ordL]
  | x :: a, y :: b => by
    unfold ordL
    split
    · exact ordL_one a b
    · exact cL_stands.one x y
theorem ordL_eq : ∀ a b, ordL a b = 0 ↔ a = b
  | [], [] => by simp [ordL]
  | [], _ :: _ => by simp [ordL]
  | _ :: _, [] => by simp [ordL]
  | x :: a, y :: b => by
    unfold ordL
    by_cases h : cL x y = 0
    · rw [if_pos h, ordL_eq a b, (cL_stands.eq x y).1 h]
      exact ⟨fun h => by rw [h], fun h => by injection h⟩
    · rw [if_neg h]
      exact ⟨fun h2 => absurd h2 h, fun e => by injection e with e1 e2; exact absurd ((cL_stands.eq x y).2 e1) h⟩
theorem ordL_flip : ∀ a b, ordL a b = - ordL b a
  | [], [] => by simp [ordL]
  | [], _ :: _ => by simp [ordL]
  | _ :: _, [] => by simp [ordL]
  | x :: a, y :: b => by
    unfold ordL
    have f := cL_stands.flip x y
    by_cases h : cL x y = 0
    · rw [if_pos h, if_pos (by omega), ordL_flip a b]
    · rw [if_neg h, if_neg (by omega), f]
theorem ordL_round : ∀ a b d, ordL a b = -1 → ordL b d = -1 → ordL a d = -1
  | [], [], d, h, _ => by simp [ordL] at h
  | [], _ :: _, [], _, h => by simp [ordL] at h
  | [], _ :: _, _ :: _, _, _ => by simp [ordL]
  | _ :: _, [], d, h, _ => by simp [ordL] at h
  | _ :: _, _ :: _, [], _, h => by simp [ordL] at h
  | x :: a, y :: b, z :: d, h1, h2 => by
    unfold ordL at h1 h2 ⊢
    by_cases g1 : cL x y = 0
    · rw [if_pos g1] at h1
      rw [(cL_stands.eq _ _).1 g1]
      by_cases g2 : cL y z = 0
      · rw [if_pos g2] at h2 ⊢
        exact ordL_round a b d h1 h2
      · rw [if_neg g2] at h2 ⊢
        exact h2
    · rw [if_neg g1] at h1
      by_cases g2 : cL y z = 0
      · rw [← (cL_stands.eq _ _).1 g2, if_neg g1]
        exact h1
      · rw [if_neg g2] at h2
        have := cL_stands.round _ _ _ h1 h2
        rw [this]
        rfl
/-! ### the code's -/
theorem or_ev (a b : Int) : Ev (fun k => cmp_Or_int.f k [a, b]) (if a = 0 then b else a) := by
  unfold cmp_Or_int.f
  refine Ev.step (fun _ => rfl) ?_
  simp only [cmp_Or_int.l0]
  refine Ev.pos (by simp) (Ev.pos (by decide) (Ev.pos (by simp) ?_))
  have r0 : rd [a, b] 0 = a := rfl
  rw [r0]
  by_cases h : a = 0
  · rw [if_pos h]
    refine Ev.pos h (Ev.step (fun _ => rfl) ?_)
    simp only [cmp_Or_int.l0]
    rw [show wrap64 (0 + 1) = 1 by rw [wrap_in] <;> omega]
    refine Ev.pos (by simp) (Ev.pos (by decide) (Ev.pos (by simp) ?_))
    have r1 : rd [a, b] 1 = b := rfl
    rw [r1]
    by_cases h2 : b = 0
    · rw [h2]
      refine Ev.pos rfl (Ev.step (fun _ => rfl) ?_)
      simp only [cmp_Or_int.l0]
      rw [show wrap64 (1 + 1) = 2 by rw [wrap_in] <;> omega]
      exact Ev.neg (by simp) (Ev.now _)
    · exact Ev.neg h2 (Ev.now _)
  · rw [if_neg h]
    exact Ev.neg h (Ev.now _)
theorem order1_ev (x y : Lab) : Ev (fun k => label_Order_1.f k x.f0 x.f1 y.f0 y.f1) (cL x y) := by
  unfold label_Order_1.f label_names.f strings_Compare.f
  exact Ev.bind (Ev.now _) (Ev.one (Ev.bind (or_ev (cB x.f0 y.f0) (cB x.f1 y.f1)) (Ev.now _)))
theorem order_loop (l r : List Lab) (hl : l.length ≤ 4398046511104) : ∀ (d i : Nat), l.length - i = d → i ≤ l.length → i ≤ r.length →
    Ev (fun k => label_Pair_label_Order_1.l0 k l r l (l.length : Int) (i : Int)) (ordL (l.drop i) (r.drop i)) := by
  intro d
  induction d with
  | zero =>
    intro i hd hi hir
    refine Ev.step (fun _ => rfl) ?_
    simp only [label_Pair_label_Order_1.l0]
    rw [List.drop_of_length_le (by omega)]
    refine Ev.neg (by omega) ?_
    by_cases h : l.length < r.length
    · rw [List.drop_eq_getElem_cons (show i < r.length by omega)]
      exact Ev.pos (by omega) (Ev.now _)
    · rw [List.drop_of_length_le (show r.length ≤ i by omega)]
      exact Ev.neg (by omega) (Ev.now _)
  | succ d ih =>
    intro i hd hi hir
    have hlt : i < l.length := by omega
    refine Ev.step (fun _ => rfl) ?_
    simp only [label_Pair_label_Order_1.l0]
    rw [List.drop_eq_getElem_cons hlt]
    refine Ev.pos (by omega) (Ev.pos (by omega) (Ev.pos (by omega) ?_))
    by_cases h : i < r.length
    · have ih' := ih (i + 1) (by omega) (by omega) (by omega)
      rw [List.drop_eq_getElem_cons h, rdLab l i hlt, rdLab r i h, w1 i (by omega)]
      refine Ev.neg (by omega) (Ev.pos (by omega) (Ev.bind (order1_ev l[i] r[i]) ?_))
      unfold ordL
      by_cases h2 : cL l[i] r[i] = 0
      · rw [if_pos h2]
        exact Ev.pos h2 ih'
      · rw [if_neg h2]
        exact Ev.neg h2 (Ev.now _)
    · rw [List.drop_of_length_le (show r.length ≤ i by omega)]
      exact Ev.pos (by omega) (Ev.now _)
theorem order_ev (l r : List Lab) (hl : l.length ≤ 4398046511104) : Ev (fun k => label_Order.f k l r) (ordL l r) := by
  unfold label_Order.f label_Pair_label_Order_1.f
  have h := order_loop l r hl l.length 0 rfl (Nat.zero_le _) (Nat.zero_le _)
  rw [List.drop_zero, List.drop_zero] at h
  exact Ev.bind h (Ev.now _)
end Go.Proofs.YtjmbddgbojcpmaaDoor.B
end

section
set_option linter.unusedVariables false
set_option linter.unusedSimpArgs false
namespace Go.Proofs.YtjmbddgbojcpmaaDoor.B
open Go.RowKit Go.Proofs.YtjmbddgbojcpmaaDoor.X Go.Proofs.YtjmbddgbojcpmaaDoorW.PrintWords Go.Proofs.YtjmbddgbojcpmaaDoorW.PrintLast

/-- a byte as it is put -/
def oneP (b : UInt8) : List UInt8 :=
  if b.toNat = 34 ∨ b.toNat = 92 then [92, b] else if b.toNat = 10 then [92, 110] else if b.toNat = 9 then [92, 116]
  else if b.toNat < 32 ∨ 126 < b.toNat then [92, 120, hexd.getD (b.toNat / 16) 0, hexd.getD (b.toNat % 16) 0] else [b]
theorem oneP_len (b : UInt8) : 1 ≤ (oneP b).length ∧ (oneP b).length ≤ 4 := by
  have h : ∀ n : Fin 256, 1 ≤ (oneP (UInt8.ofNat n.val)).length ∧ (oneP (UInt8.ofNat n.val)).length ≤ 4 := by decide +kernel
  have := h ⟨b.toNat, b.toNat_lt⟩
  simpa using this
theorem escR_more {l : List UInt8} {b : UInt8} {n : Nat} (r : List UInt8) (h : escP l = some (b, n)) : escP (l ++ r) = some (b, n) := by
  match l, h with
  | [], h => simp [escP] at h
  | [c], h =>
    simp only [escP] at h
    simp only [List.cons_append, List.nil_append, escP]
    repeat' split at h
    all_goals first
      | (cases h; done)
      | simp_all
  | [c, d], h =>
    simp only [escP] at h
    simp only [List.cons_append, List.nil_append, escP]
    repeat' split at h
    all_goals first
      | (cases h; done)
      | simp_all
  | c :: d :: e :: l, h => exact h
theorem decR_more {l : List UInt8} {b : UInt8} {n : Nat} (r : List UInt8) (h : decP l = some (b, n)) : decP (l ++ r) = some (b, n) := by
  match l, h with
  | [], h => simp [decP] at h
  | c :: l, h =>
    simp only [List.cons_append, decP] at h ⊢
    by_cases c1 : c.toNat = 92
    · rw [if_pos c1] at h ⊢
      obtain ⟨⟨b2, n2⟩, h2, h3⟩ := Option.map_eq_some_iff.1 h
      rw [escR_more r h2]
      exact congrArg some h3
    · rw [if_neg c1] at h ⊢
      exact h
/-- what a byte is put is that byte -/
theorem dec_one (b : UInt8) (r : List UInt8) : decP (oneP b ++ r) = some (b, (oneP b).length) := by
  refine decR_more r ?_
  have h : ∀ n : Fin 256, decP (oneP (UInt8.ofNat n.val)) = some (UInt8.ofNat n.val, (oneP (UInt8.ofNat n.val)).length) := by decide +kernel
  have := h ⟨b.toNat, b.toNat_lt⟩
  simpa using this
theorem head_one (b : UInt8) : (oneP b).head? ≠ some 34 := by
  have h : ∀ n : Fin 256, (oneP (UInt8.ofNat n.val)).head? ≠ some 34 := by decide +kernel
  have := h ⟨b.toNat, b.toNat_lt⟩
  simpa using this
/-! ### small numbers -/
/-- a length that is small enough (a word of its own, so that no tactic unfolds the number) -/
def SmallN (n : Nat) : Prop := n < 140737488355328
theorem SmallN.of {n : Nat} (h : n < 140737488355328) : SmallN n := h
theorem SmallN.add {i : Nat} (h : SmallN i) (n : Nat) (hn : n ≤ 4) : wrap64 ((i : Int) + (n : Int)) = ((i + n : Nat) : Int) := by
  have h2 : (i : Int) < 140737488355328 := Int.ofNat_lt.2 h
  unfold wrap64
  omega
theorem SmallN.up {i : Nat} (h : SmallN i) {acc : List UInt8} (ha : acc.length ≤ i) : (up_ acc).length < 140737488355328 := by
  rw [up_, List.length_map]
  exact Nat.lt_of_le_of_lt ha h
theorem SmallN.low {i n : Nat} (hs : SmallN n) (h : i ≤ n) : SmallN i := Nat.lt_of_le_of_lt h hs
theorem SmallN.out {n : Nat} (hs : SmallN n) : n < 140737488355328 := hs
attribute [irreducible] SmallN
end Go.Proofs.YtjmbddgbojcpmaaDoor.B
end

section
set_option linter.unusedVariables false
set_option linter.unusedSimpArgs false
namespace Go.Proofs.YtjmbddgbojcpmaaDoor.B
open Go.RowKit Go.Proofs.YtjmbddgbojcpmaaDoor.X Go.Proofs.YtjmbddgbojcpmaaDoorW.PrintWords Go.Proofs.YtjmbddgbojcpmaaDoorW.PrintLast

/-- a text in quotes -/
def putP (t : List UInt8) : List UInt8 := 34 :: (t.flatMap oneP ++ [34])
theorem flat_len : ∀ t : List UInt8, t.length ≤ (t.flatMap oneP).length ∧ (t.flatMap oneP).length ≤ 4 * t.length
  | [] => by simp
  | b :: t => by
    have h := flat_len t
    have h2 := oneP_len b
    rw [List.flatMap_cons, List.length_append, List.length_cons]
    omega
theorem putP_len (t : List UInt8) : (putP t).length = (t.flatMap oneP).length + 2 := by simp [putP]
theorem unqP_step {c : UInt8} {l : List UInt8} {b : UInt8} {n : Nat} (hc : c.toNat ≠ 34) (h : decP (c :: l) = some (b, n)) (hn : 1 ≤ n) :
    unqP (c :: l) = (unqP ((c :: l).drop n)).map fun r => (b :: r.1, r.2 + n) := by
  obtain ⟨m, rfl⟩ : ∃ m, n = m + 1 := ⟨n - 1, by omega⟩
  rw [unqP, if_neg hc, h]
  simp only [Nat.add_sub_cancel, List.drop_succ_cons]
theorem unqP_put (r : List UInt8) : ∀ t : List UInt8, unqP (t.flatMap oneP ++ 34 :: r) = some (t, (t.flatMap oneP).length + 1)
  | [] => by
    rw [List.flatMap_nil, List.nil_append, unqP]
    rfl
  | b :: t => by
    have ih := unqP_put r t
    have hd := dec_one b (t.flatMap oneP ++ 34 :: r)
    have hh := head_one b
    have hl := (oneP_len b).1
    rw [List.flatMap_cons, List.append_assoc]
    obtain ⟨q, hq⟩ : ∃ q, t.flatMap oneP ++ 34 :: r = q := ⟨_, rfl⟩
    rw [hq] at hd ih ⊢
    cases ho : oneP b with
    | nil => rw [ho] at hl; simp at hl
    | cons c w =>
      rw [ho] at hd hh hl
      have hc : c.toNat ≠ 34 := fun e => hh (by rw [List.head?_cons]; exact congrArg some (UInt8.toNat_inj.1 e))
      rw [List.cons_append] at hd ⊢
      rw [unqP_step hc hd hl, ← List.cons_append, List.drop_left, ih]
      simp only [Option.map_some, List.length_append]
      congr 2
      omega
theorem getP_put (t r : List UInt8) : getP (putP t ++ r) = some (t, (putP t).length) := by
  rw [putP_len, putP, List.cons_append, getP, if_pos (by decide), List.append_assoc, List.singleton_append, unqP_put]
  rfl
/-! ### something behind -/
theorem unqR_more : ∀ (d : Nat) (l : List UInt8) (t : List UInt8) (n : Nat) (r : List UInt8), l.length = d → unqP l = some (t, n) → unqP (l ++ r) = some (t, n) := by
  intro d
  induction d using Nat.strongRecOn with
  | _ d ih =>
    intro l t n r hd h
    match l, hd, h with
    | [], _, h => simp [unqP] at h
    | c :: l, hd, h =>
      rw [unqP] at h
      rw [List.cons_append, unqP]
      by_cases c1 : c.toNat = 34
      · rw [if_pos c1] at h ⊢
        exact h
      · rw [if_neg c1] at h ⊢
        cases h2 : decP (c :: l) with
        | none => rw [h2] at h; simp at h
        | some q =>
          obtain ⟨b, m⟩ := q
          rw [h2] at h
          have h3 := decR_more r h2
          rw [List.cons_append] at h3
          rw [h3]
          have hm := decP_len h2
          obtain ⟨⟨t2, n2⟩, h4, h5⟩ := Option.map_eq_some_iff.1 h
          rw [List.length_cons] at hd hm
          have h6 := ih (l.drop (m - 1)).length (by rw [List.length_drop]; omega) _ _ _ r rfl h4
          rw [← List.drop_append_of_le_length (by omega)] at h6
          show Option.map _ (unqP ((l ++ r).drop (m - 1))) = _
          rw [h6]
          exact congrArg some h5
theorem getR_more {l : List UInt8} {t : List UInt8} {n : Nat} (r : List UInt8) (h : getP l = some (t, n)) : getP (l ++ r) = some (t, n) := by
  match l, h with
  | [], h => simp [getP] at h
  | c :: l, h =>
    simp only [List.cons_append, getP] at h ⊢
    by_cases c1 : c.toNat = 34
    · rw [if_pos c1] at h ⊢
      obtain ⟨⟨b2, n2⟩, h2, h3⟩ := Option.map_eq_some_iff.1 h
      rw [unqR_more _ _ _ _ r rfl h2]
      exact congrArg some h3
    · rw [if_neg c1] at h
      cases h
theorem getP_len' {t x : List UInt8} {n : Nat} (h : getP t = some (x, n)) : 2 ≤ n ∧ n ≤ t.length := by
  match t, h with
  | [], h => simp [getP] at h
  | c :: l, h =>
    simp only [getP] at h
    split at h
    · obtain ⟨⟨y, m⟩, h1, h2⟩ := Option.map_eq_some_iff.1 h
      have := unqP_len _ l y m rfl h1
      simp at h2
      obtain ⟨_, rfl⟩ := h2
      simp
      omega
    · simp at h
/-! ### the program's Put -/
theorem hex_and (b : UInt8) : bt (⟨#[48, 49, 50, 51, 52, 53, 54, 55, 56, 57, 97, 98, 99, 100, 101, 102]⟩ : ByteArray) ((b.toNat : Int) / 16) = ((hexd.getD (b.toNat / 16) 0).toNat : Int) ∧
    bt (⟨#[48, 49, 50, 51, 52, 53, 54, 55, 56, 57, 97, 98, 99, 100, 101, 102]⟩ : ByteArray) (Go.bits .and .u8 (b.toNat : Int) 15) = ((hexd.getD (b.toNat % 16) 0).toNat : Int) ∧
    0 ≤ (b.toNat : Int) / 16 ∧ (b.toNat : Int) / 16 < 16 ∧ 0 ≤ Go.bits .and .u8 (b.toNat : Int) 15 ∧ Go.bits .and .u8 (b.toNat : Int) 15 < 16 := by
  have h : ∀ n : Fin 256, bt (⟨#[48, 49, 50, 51, 52, 53, 54, 55, 56, 57, 97, 98, 99, 100, 101, 102]⟩ : ByteArray) (((UInt8.ofNat n.val).toNat : Int) / 16) = ((hexd.getD ((UInt8.ofNat n.val).toNat / 16) 0).toNat : Int) ∧
    bt (⟨#[48, 49, 50, 51, 52, 53, 54, 55, 56, 57, 97, 98, 99, 100, 101, 102]⟩ : ByteArray) (Go.bits .and .u8 ((UInt8.ofNat n.val).toNat : Int) 15) = ((hexd.getD ((UInt8.ofNat n.val).toNat % 16) 0).toNat : Int) ∧
    0 ≤ ((UInt8.ofNat n.val).toNat : Int) / 16 ∧ ((UInt8.ofNat n.val).toNat : Int) / 16 < 16 ∧ 0 ≤ Go.bits .and .u8 ((UInt8.ofNat n.val).toNat : Int) 15 ∧ Go.bits .and .u8 ((UInt8.ofNat n.val).toNat : Int) 15 < 16 := by decide +kernel
  have := h ⟨b.toNat, b.toNat_lt⟩
  simpa only [UInt8.ofNat_toNat] using this
theorem put_one (b : UInt8) (acc : List UInt8) (ys : List Int) (n i : Int) (R : ByteArray) (hs : SmallN (acc.length + 4)) (e1 : wrap64 (i + 1) = i + 1)
    (h : Ev (fun k => quote_Put.l0 k (up_ (acc ++ oneP b)) ys n (i + 1)) R) :
    Ev (fun k => if (b.toNat : Int) = 34 then quote_Put.j1 k (up_ acc) (b.toNat : Int) ys n i true else quote_Put.j1 k (up_ acc) (b.toNat : Int) ys n i ((b.toNat : Int) == 92)) R := by
  have up2 : ∀ w : List UInt8, up_ acc ++ up_ w = up_ (acc ++ w) := fun w => by simp [up_]
  have sm : ∀ w : List Int, w.length ≤ 4 → (up_ acc).length + w.length < 140737488355328 := fun w hw => by
    have h0 : (up_ acc).length = acc.length := by rw [up_, List.length_map]
    rw [h0]
    exact Nat.lt_of_le_of_lt (Nat.add_le_add_left hw _) hs.out
  have go : ∀ w : List Int, w.length ≤ 4 → up_ (oneP b) = w → Ev (fun k => (some w).bind fun y => (if (up_ acc).length + y.length < 140737488355328 then (quote_Put.l0 k ((up_ acc) ++ y) ys n (wrap64 (i + 1))) else (none))) R := fun w hw hb => by
    refine Ev.one (Ev.pos (sm w hw) ?_)
    rw [e1, ← hb, up2]
    exact h
  obtain ⟨x1, x2, x3, x4, x5, x6⟩ := hex_and b
  by_cases c1 : b.toNat = 34
  · refine Ev.pos (by rw [c1]; rfl) (Ev.step (fun _ => rfl) ?_)
    simp only [quote_Put.j1]
    refine Ev.pos (by trivial) (go _ (by simp) ?_)
    rw [oneP, if_pos (.inl c1)]
    rfl
  refine Ev.neg (fun e => c1 (Int.ofNat_inj.1 e)) (Ev.step (fun _ => rfl) ?_)
  simp only [quote_Put.j1]
  by_cases c2 : b.toNat = 92
  · refine Ev.pos (by rw [c2]; rfl) (go _ (by simp) ?_)
    rw [oneP, if_pos (.inr c2)]
    rfl
  have c12 : ¬ (b.toNat = 34 ∨ b.toNat = 92) := fun e => e.elim c1 c2
  refine Ev.neg (by rw [beq_iff_eq]; exact fun e => c2 (Int.ofNat_inj.1 e)) ?_
  by_cases c3 : b.toNat = 10
  · refine Ev.pos (by rw [c3]; rfl) (go _ (by simp) ?_)
    rw [oneP, if_neg c12, if_pos c3]
    rfl
  refine Ev.neg (fun e => c3 (Int.ofNat_inj.1 e)) ?_
  by_cases c4 : b.toNat = 9
  · refine Ev.pos (by rw [c4]; rfl) (go _ (by simp) ?_)
    rw [oneP, if_neg c12, if_neg c3, if_pos c4]
    rfl
  refine Ev.neg (fun e => c4 (Int.ofNat_inj.1 e)) ?_
  by_cases c5 : b.toNat < 32
  · refine Ev.pos (Int.ofNat_lt.2 c5) (Ev.pos x3 (Ev.pos x4 (Ev.pos x5 (Ev.pos x6 (go _ (by simp) ?_)))))
    rw [x1, x2, oneP, if_neg c12, if_neg c3, if_neg c4, if_pos (.inl c5)]
    rfl
  refine Ev.neg (fun e => c5 (Int.ofNat_lt.1 e)) ?_
  by_cases c6 : 126 < b.toNat
  · refine Ev.pos (Int.ofNat_lt.2 c6) (Ev.pos x3 (Ev.pos x4 (Ev.pos x5 (Ev.pos x6 (go _ (by simp) ?_)))))
    rw [x1, x2, oneP, if_neg c12, if_neg c3, if_neg c4, if_pos (.inr c6)]
    rfl
  · refine Ev.neg (fun e => c6 (Int.ofNat_lt.1 e)) (Ev.pos (sm [] (by simp)) ?_)
    have e : up_ acc ++ [(b.toNat : Int)] = up_ (acc ++ oneP b) := by
      rw [oneP, if_neg c12, if_neg c3, if_neg c4, if_neg (fun e => e.elim c5 c6), ← up2]
      rfl
    rw [e, e1]
    exact h
theorem put_loop (s : ByteArray) (hs : SmallN (4 * s.size + 8)) : ∀ (d i : Nat) (acc : List UInt8), s.size - i = d → i ≤ s.size → acc.length ≤ 1 + 4 * i →
    Ev (fun k => quote_Put.l0 k (up_ acc) (bytesOf s) ((bytesOf s).length : Int) (i : Int)) ⟨(acc ++ ((by_ s).drop i).flatMap oneP ++ [34]).toArray⟩ := by
  intro d
  induction d with
  | zero =>
    intro i acc hd hi ha
    have hb := by_length s
    have hl := bytesOf_length s
    refine Ev.step (fun _ => rfl) ?_
    simp only [quote_Put.l0]
    rw [List.drop_of_length_le (by omega)]
    refine Ev.neg (by omega) (Ev.pos ((hs.low (by omega)).up (Nat.le_refl acc.length)) (Ev.ret ?_))
    rw [List.flatMap_nil, List.append_nil, ← nums_up]
    simp [up_]
  | succ d ih =>
    intro i acc hd hi ha
    have hb := by_length s
    have hl := bytesOf_length s
    have hlt : i < (by_ s).length := by omega
    have hc : rd (bytesOf s) (i : Int) = (((by_ s)[i]).toNat : Int) := by rw [rd_bytesOf, bt_by s i hlt]
    obtain ⟨b, hbb⟩ : ∃ b, (by_ s)[i] = b := ⟨_, rfl⟩
    rw [hbb] at hc
    have hob := oneP_len b
    have hdr := List.drop_eq_getElem_cons hlt
    rw [hbb] at hdr
    rw [hdr, List.flatMap_cons, ← List.append_assoc]
    refine Ev.step (fun _ => rfl) ?_
    simp only [quote_Put.l0]
    rw [hc]
    refine Ev.pos (by omega) (Ev.pos (by omega) (Ev.pos (by omega) ?_))
    have ih' := ih (i + 1) (acc ++ oneP b) (by omega) (by omega) (by rw [List.length_append]; omega)
    refine put_one b acc _ _ _ _ (hs.low (by omega)) ?_ ih'
    exact (hs.low (i := i) (by omega)).add 1 (by omega)
theorem put_ev (s : ByteArray) (hs : SmallN (4 * s.size + 8)) : Ev (fun k => quote_Put.f k s) ⟨(putP (by_ s)).toArray⟩ := by
  have h := put_loop s hs s.size 0 [34] rfl (Nat.zero_le _) (by simp)
  unfold quote_Put.f
  refine Ev.pos (Nat.le_trans (Nat.le_trans (by omega) (Nat.le_of_lt hs.out)) (by decide : 140737488355328 ≤ 9223372036854775807)) (Ev.one ?_)
  exact h
end Go.Proofs.YtjmbddgbojcpmaaDoor.B
end

section
set_option linter.unusedVariables false
set_option linter.unusedSimpArgs false
namespace Go.Proofs.YtjmbddgbojcpmaaDoor.B
open Go.RowKit Go.Proofs.YtjmbddgbojcpmaaDoor.X Go.Proofs.YtjmbddgbojcpmaaDoorW.PrintWords Go.Proofs.YtjmbddgbojcpmaaDoorW.PrintLast

def pfxP (o t : List UInt8) : Bool := t.take o.length == o
theorem pfx_f (t op : ByteArray) : strings_HasPrefix.f t op = some (pfxP (by_ op) (by_ t)) := by
  have h1 := by_length t
  have h2 := by_length op
  unfold strings_HasPrefix.f stringslite_HasPrefix.f pfxP
  by_cases h : (t.size : Int) ≥ (op.size : Int)
  · rw [if_pos h, if_pos (by omega), if_pos (by omega), Option.bind_some, toList_by, toList_by, by_extract, List.drop_zero, h2]
  · rw [if_neg h, Option.bind_some]
    congr 1
    symm
    rw [beq_eq_false_iff_ne]
    intro e
    have := congrArg List.length e
    rw [List.length_take] at this
    omega
end Go.Proofs.YtjmbddgbojcpmaaDoor.B
end

section
set_option linter.unusedVariables false
set_option linter.unusedSimpArgs false
namespace Go.Proofs.YtjmbddgbojcpmaaDoor.B
open Go.RowKit Go.Proofs.YtjmbddgbojcpmaaDoor.X Go.Proofs.YtjmbddgbojcpmaaDoorW.PrintWords Go.Proofs.YtjmbddgbojcpmaaDoorW.PrintLast

/-- does a text begin with this one, which is not empty? -/
def sepC (t o : List UInt8) : Bool := !(o == []) && pfxP o t
/-- cut at the first of some -/
def cutP (L : List (List UInt8)) : List UInt8 → List UInt8 × List UInt8 × List UInt8
  | [] => ([], [], [])
  | c :: t => match L.find? (sepC (c :: t)) with
    | some o => ([], o, (c :: t).drop o.length)
    | none => (c :: (cutP L t).1, (cutP L t).2.1, (cutP L t).2.2)
def tri (r : List UInt8 × List UInt8 × List UInt8) : ByteArray × ByteArray × ByteArray := (⟨r.1.toArray⟩, ⟨r.2.1.toArray⟩, ⟨r.2.2.toArray⟩)
theorem mkB (t : ByteArray) : (⟨(by_ t).toArray⟩ : ByteArray) = t := by apply by_ext; rw [by_mk]
theorem pfxP_len {o t : List UInt8} (h : pfxP o t = true) : o.length ≤ t.length := by
  simp only [pfxP, beq_iff_eq] at h
  have := congrArg List.length h
  rw [List.length_take] at this
  omega
theorem cut_scan (s : ByteArray) (hs : s.size ≤ 9223372036854775807) (L : List ByteArray) (hL : L.length ≤ 9223372036854775807) (a : Nat) (ha : a < s.size) (R : ByteArray × ByteArray × ByteArray)
    (H : Ev (fun k => match (L.map by_).find? (sepC ((by_ s).drop a)) with | some o => some (tri ((by_ s).take a, o, (by_ s).drop (a + o.length))) | none => quote_Cut.l0 k s L (s.size : Int) ((a + 1 : Nat) : Int)) R) : ∀ (d j : Nat), L.length - j = d → j ≤ L.length →
    ((L.take j).map by_).find? (sepC ((by_ s).drop a)) = none →
    Ev (fun k => quote_Cut.l1 k s L (a : Int) (s.size : Int) (a : Int) L (L.length : Int) (j : Int)) R := by
  intro d
  induction d with
  | zero =>
    intro j hd hj hno
    have hjl : j = L.length := by omega
    subst hjl
    rw [List.take_length] at hno
    rw [hno] at H
    refine Ev.step (fun _ => rfl) ?_
    simp only [quote_Cut.l1]
    rw [w1 a (by omega)]
    exact Ev.neg (by omega) H
  | succ d ih =>
    intro j hd hj hno
    have hlt : j < L.length := by omega
    have hb := by_length s
    obtain ⟨x, hx⟩ : ∃ x, L[j] = x := ⟨_, rfl⟩
    have hbx := by_length x
    have htk : L.take (j + 1) = L.take j ++ [x] := by rw [← hx, List.take_succ_eq_append_getElem hlt]
    have hdr : ((by_ s).drop a).length = s.size - a := by rw [List.length_drop, hb]
    have go : sepC ((by_ s).drop a) (by_ x) = false → Ev (fun k => quote_Cut.l1 k s L (a : Int) (s.size : Int) (a : Int) L (L.length : Int) ((j + 1 : Nat) : Int)) R := fun h => by
      refine ih (j + 1) (by omega) (by omega) ?_
      rw [htk, List.map_append, List.find?_append, hno, List.map_singleton, List.find?_singleton, h]
      rfl
    refine Ev.step (fun _ => rfl) ?_
    simp only [quote_Cut.l1]
    rw [w1 j (by omega), rdS L j hlt, hx]
    refine Ev.pos (by omega) (Ev.pos (by omega) (Ev.pos (by omega) ?_))
    by_cases h0 : x.toList = []
    · refine Ev.pos h0 (go ?_)
      rw [toList_by] at h0
      simp [sepC, h0]
    · refine Ev.neg h0 (Ev.pos (by omega) (Ev.pos (by omega) ?_))
      rw [toList_by] at h0
      have e0 : by_ (s.extract (a : Int).toNat s.size) = (by_ s).drop a := by rw [by_extract, Int.toNat_natCast, List.take_of_length_le (Nat.le_of_eq hb)]
      rw [pfx_f, e0]
      refine Ev.one ?_
      by_cases hp : pfxP (by_ x) ((by_ s).drop a) = true
      · have hl := pfxP_len hp
        rw [hdr, hbx] at hl
        have hsz : a + x.size ≤ s.size := by omega
        have e1 : wrap64 ((a : Int) + (x.size : Int)) = ((a + x.size : Nat) : Int) := by rw [wrap_in] <;> omega
        have hf : (L.map by_).find? (sepC ((by_ s).drop a)) = some (by_ x) := by
          rw [← List.take_append_drop (j + 1) L, htk, List.map_append, List.map_append, List.find?_append, List.find?_append, hno, List.map_singleton, List.find?_singleton]
          have : sepC ((by_ s).drop a) (by_ x) = true := by
            have h9 : (by_ x == []) = false := by rw [beq_eq_false_iff_ne]; exact h0
            rw [sepC, h9, hp]
            rfl
          rw [if_pos this]
          rfl
        rw [hf] at H
        obtain ⟨K, HK⟩ := H
        have hR := Option.some.inj (HK K (Nat.le_refl _))
        rw [e1]
        clear e1 hl
        refine Ev.pos hp (Ev.pos (Int.natCast_nonneg _) (Ev.pos (Int.ofNat_le.2 hsz) (Ev.ret ?_)))
        rw [← hR, Int.toNat_natCast, Int.toNat_natCast, tri]
        have t1 : s.extract 0 a = ⟨((by_ s).take a).toArray⟩ := by apply by_ext; rw [by_extract, List.drop_zero]; exact (by_mk _).symm
        have t2 : s.extract (a + x.size) s.size = ⟨((by_ s).drop (a + (by_ x).length)).toArray⟩ := by apply by_ext; rw [by_extract, List.take_of_length_le (Nat.le_of_eq hb), hbx]; exact (by_mk _).symm
        rw [t1, t2, mkB]
      · refine Ev.neg hp (go ?_)
        rw [Bool.not_eq_true] at hp
        rw [sepC, hp, Bool.and_false]
def cutI (s : ByteArray) (L : List ByteArray) (a : Nat) : ByteArray × ByteArray × ByteArray :=
  tri ((by_ s).take a ++ (cutP (L.map by_) ((by_ s).drop a)).1, (cutP (L.map by_) ((by_ s).drop a)).2.1, (cutP (L.map by_) ((by_ s).drop a)).2.2)
theorem cut_loop (s : ByteArray) (hs : s.size ≤ 9223372036854775807) (L : List ByteArray) (hL : L.length ≤ 9223372036854775807) : ∀ (d a : Nat), s.size - a = d → a ≤ s.size →
    Ev (fun k => quote_Cut.l0 k s L (s.size : Int) (a : Int)) (cutI s L a) := by
  intro d
  induction d with
  | zero =>
    intro a hd ha
    have hb := by_length s
    refine Ev.step (fun _ => rfl) ?_
    simp only [quote_Cut.l0]
    refine Ev.neg (by omega) (Ev.ret ?_)
    unfold cutI
    rw [List.drop_of_length_le (by omega), List.take_of_length_le (by omega)]
    simp only [cutP, tri, List.append_nil, mkB]
  | succ d ih =>
    intro a hd ha
    have hb := by_length s
    have hlt : a < (by_ s).length := by omega
    refine Ev.step (fun _ => rfl) ?_
    simp only [quote_Cut.l0]
    refine Ev.pos (by omega) (cut_scan s hs L hL a (by omega) _ ?_ L.length 0 rfl (Nat.zero_le _) rfl)
    unfold cutI
    obtain ⟨c, hc⟩ : ∃ c, (by_ s)[a] = c := ⟨_, rfl⟩
    have hdr := List.drop_eq_getElem_cons hlt
    have htk := List.take_succ_eq_append_getElem hlt
    rw [hc] at hdr htk
    rw [hdr, cutP]
    cases hf : (L.map by_).find? (sepC (c :: (by_ s).drop (a + 1))) with
    | some o =>
      refine Ev.ret ?_
      dsimp only
      rw [← hdr, List.append_nil, List.drop_drop]
    | none =>
      have h := ih (a + 1) (by omega) (by omega)
      unfold cutI at h
      rw [htk, List.append_assoc] at h
      exact h
theorem cut_ev (s : ByteArray) (hs : s.size ≤ 9223372036854775807) (L : List ByteArray) (hL : L.length ≤ 9223372036854775807) : Ev (fun k => quote_Cut.f k s L) (tri (cutP (L.map by_) (by_ s))) := by
  have h := cut_loop s hs L hL s.size 0 rfl (Nat.zero_le _)
  unfold cutI at h
  rw [List.take_zero, List.drop_zero, List.nil_append] at h
  exact h
/-! ### what a cut is -/
/-! ### joined -/
def joinP (sep : List UInt8) (l : List (List UInt8)) : List UInt8 := Go.Lib.join l sep
theorem joinP_nil (sep : List UInt8) : joinP sep [] = [] := rfl
theorem joinP_one (sep x : List UInt8) : joinP sep [x] = x := Go.Lib.join_one x sep
theorem joinP_cons (sep x y : List UInt8) (l : List (List UInt8)) : joinP sep (x :: y :: l) = x ++ sep ++ joinP sep (y :: l) := by
  unfold joinP
  rw [Go.Lib.join_cons, Go.Lib.join_cons]
  simp [Go.Lib.joinTail]
theorem join_f (sep : ByteArray) (l : List ByteArray) (hl : l.length ≤ 140737488355328) (hz : (joinP (by_ sep) (l.map by_)).length ≤ 140737488355328) : quote_Join.f sep l = some ⟨(joinP (by_ sep) (l.map by_)).toArray⟩ := by
  have e : strings_Join.pure l sep = ⟨(joinP (by_ sep) (l.map by_)).toArray⟩ := rfl
  unfold quote_Join.f strings_Join.f
  rw [e, if_pos ⟨hl, by rw [← by_length, by_mk]; exact hz⟩]
  rfl
end Go.Proofs.YtjmbddgbojcpmaaDoor.B
end

section
set_option linter.unusedVariables false
set_option linter.unusedSimpArgs false
namespace Go.Proofs.YtjmbddgbojcpmaaDoor.B
open Go.RowKit Go.Proofs.YtjmbddgbojcpmaaDoor.X Go.Proofs.YtjmbddgbojcpmaaDoorW.PrintWords Go.Proofs.YtjmbddgbojcpmaaDoorW.PrintLast

/-! ### Right -/
def okL (p : Lab) : Bool := nameP (by_ p.f0) && decide (p.f1.size ≤ 256)
def stepsB : Option Lab → List Lab → Bool
  | _, [] => true
  | none, p :: r => okL p && stepsB (some p) r
  | some q, p :: r => okL p && (decide (nl q.f0 p.f0) && stepsB (some p) r)
def rightL (l : List Lab) : Bool := stepsB none l && decide (l.length ≤ 16)
def prevL (l : List Lab) (i : Nat) : Option Lab := if i = 0 then none else l[i - 1]?
theorem right_loop (l : List Lab) (hl : l.length ≤ 1000000) : ∀ d i, l.length - i = d → i ≤ l.length →
    Ev (fun k => label_Right.l0 k l l (l.length : Int) (i : Int)) (stepsB (prevL l i) (l.drop i) && decide (l.length ≤ 16)) := by
  intro d
  induction d with
  | zero =>
    intro i hd hi
    rw [List.drop_of_length_le (by omega)]
    refine Ev.step (fun _ => rfl) ?_
    simp only [label_Right.l0]
    refine Ev.neg (by omega) (Ev.ret ?_)
    have : stepsB (prevL l i) [] = true := by cases prevL l i <;> rfl
    rw [this, Bool.true_and, decide_eq_decide]
    omega
  | succ d ih =>
    intro i hd hi
    have h : i < l.length := by omega
    have hih := ih (i + 1) (by omega) (by omega)
    rw [List.drop_eq_getElem_cons h]
    have hp : prevL l (i + 1) = some l[i] := by
      unfold prevL
      rw [if_neg (by omega), Nat.add_sub_cancel, List.getElem?_eq_getElem h]
    rw [hp] at hih
    have hr := rdLab l i h
    refine Ev.step (fun _ => rfl) ?_
    simp only [label_Right.l0]
    refine Ev.pos (by omega) (Ev.pos (by omega) (Ev.pos (by omega) ?_))
    rw [hr]
    refine Ev.bind (name_ev _) ?_
    have bad : okL l[i] = false → (false = (stepsB (prevL l i) (l[i] :: l.drop (i + 1)) && decide (l.length ≤ 16))) := fun h0 => by
      have : stepsB (prevL l i) (l[i] :: l.drop (i + 1)) = false := by cases prevL l i <;> simp [stepsB, h0]
      rw [this]
      rfl
    cases hn : nameP (by_ l[i].f0) with
    | false => exact Ev.neg (by simp) (Ev.ret (bad (by unfold okL; rw [hn]; rfl)))
    | true =>
      refine Ev.pos rfl ?_
      by_cases hz : ((l[i].f1).size : Int) > 256
      · exact Ev.pos hz (Ev.ret (bad (by unfold okL; rw [hn, decide_eq_false (by omega)]; rfl)))
      · refine Ev.neg hz ?_
        have hok : okL l[i] = true := by unfold okL; rw [hn, decide_eq_true (by omega)]; rfl
        rcases Nat.eq_zero_or_pos i with rfl | hpos
        · refine Ev.neg (by omega) ?_
          have e0 : prevL l 0 = none := rfl
          rw [e0]
          simp only [stepsB, hok, Bool.true_and]
          rw [w1 0 (by omega)]
          exact hih
        · have hw : wrap64 ((i : Int) - 1) = ((i - 1 : Nat) : Int) := by rw [wrap_in (by omega) (by omega)]; omega
          have hr2 := rdLab l (i - 1) (by omega)
          have e0 : prevL l i = some l[i - 1] := by
            unfold prevL
            rw [if_neg (by omega), List.getElem?_eq_getElem (by omega)]
          obtain ⟨r, hnf, hn1, hn2⟩ := names_f l[i - 1].f0 l[i - 1].f1 l[i].f0 l[i].f1
          refine Ev.pos (by omega) ?_
          rw [hw, hr2, hnf]
          refine Ev.pos (by omega) (Ev.pos (by omega) (Ev.one ?_))
          rw [e0]
          simp only [stepsB, hok, Bool.true_and]
          by_cases hr0 : r ≥ 0
          · refine Ev.pos hr0 (Ev.ret ?_)
            rw [decide_eq_false (fun h => by have := hn1.2 h; omega)]
            rfl
          · refine Ev.neg hr0 ?_
            rw [decide_eq_true (hn1.1 (by omega)), w1 i (by omega), Bool.true_and]
            exact hih
theorem right_ev (l : List Lab) (hl : l.length ≤ 1000000) : Ev (fun k => label_Right.f k l) (rightL l) := by
  unfold label_Right.f rightL
  exact right_loop l hl l.length 0 (by omega) (by omega)

/-! ### Parse -/
def eqP : List UInt8 → Option (List UInt8 × List UInt8)
  | [] => none
  | c :: t => if c = 61 then some ([], t) else (eqP t).map fun x => (c :: x.1, x.2)
theorem cut_eqP : ∀ r : List UInt8, cutP [[61]] r = match eqP r with | none => (r, [], []) | some (a, b) => (a, [61], b)
  | [] => rfl
  | c :: t => by
    have ih := cut_eqP t
    have hs : sepC (c :: t) [61] = (c == 61) := by
      simp [sepC, pfxP]
    unfold cutP eqP
    by_cases h : c = 61
    · subst h
      have : List.find? (sepC (61 :: t)) [[61]] = some [61] := by simp [List.find?, hs]
      rw [this]
      rfl
    · have hb : (c == 61) = false := beq_eq_false_iff_ne.2 h
      have : List.find? (sepC (c :: t)) [[61]] = none := by simp [List.find?, hs, hb]
      rw [this, if_neg h, ih]
      cases eqP t with
      | none => rfl
      | some x => rfl
theorem eqP_some : ∀ {r a b : List UInt8}, eqP r = some (a, b) → r = a ++ 61 :: b ∧ 61 ∉ a
  | [], _, _, h => by simp [eqP] at h
  | c :: t, a, b, h => by
    unfold eqP at h
    by_cases hc : c = 61
    · rw [if_pos hc] at h
      obtain ⟨rfl, rfl⟩ := Prod.mk.inj (Option.some.inj h)
      exact ⟨by rw [hc]; rfl, by simp⟩
    · rw [if_neg hc] at h
      cases ht : eqP t with
      | none => rw [ht] at h; cases h
      | some x =>
        obtain ⟨y, z⟩ := x
        rw [ht] at h
        obtain ⟨rfl, rfl⟩ := Prod.mk.inj (Option.some.inj h)
        obtain ⟨h1, h2⟩ := eqP_some ht
        exact ⟨by rw [h1]; rfl, fun hm => by
          rcases List.mem_cons.1 hm with e | e
          · exact hc e.symm
          · exact h2 e⟩
theorem eqP_at : ∀ {a : List UInt8} (b : List UInt8), 61 ∉ a → eqP (a ++ 61 :: b) = some (a, b)
  | [], b, _ => rfl
  | c :: a, b, h => by
    show eqP (c :: (a ++ 61 :: b)) = _
    unfold eqP
    rw [if_neg (fun e => h (by rw [e]; exact List.mem_cons_self)), eqP_at b (fun hm => h (List.mem_cons_of_mem _ hm))]
    rfl
theorem eqP_more {r a b : List UInt8} (x : List UInt8) (h : eqP r = some (a, b)) : eqP (r ++ x) = some (a, b ++ x) := by
  obtain ⟨rfl, h2⟩ := eqP_some h
  rw [List.append_assoc]
  exact eqP_at (b ++ x) h2
def mkL (a v : List UInt8) : Lab := ⟨⟨a.toArray⟩, ⟨v.toArray⟩⟩
/-- the labels up to the closing brace, and what stands behind it -/
def fieldsP : Nat → List Lab → List UInt8 → Option (List Lab × List UInt8)
  | 0, _, _ => none
  | d + 1, acc, r => match eqP r with
    | none => none
    | some (a, b) => match getP b with
      | none => none
      | some (v, n) => match b.drop n with
        | [] => none
        | c :: x => if c = 125 then some (acc ++ [mkL a v], x) else if c = 44 then fieldsP d (acc ++ [mkL a v]) x else none
def endL (z : Nat) (o : Option (List Lab × List UInt8)) : List Lab × Int × Bool := match o with
  | none => ([], 0, false)
  | some (l, x) => if rightL l = true then (l, (z : Int) - (x.length : Int), true) else ([], 0, false)
theorem drop_cons_get {b : List UInt8} {n : Nat} {c : UInt8} {x : List UInt8} (h : b.drop n = c :: x) : n < b.length ∧ b[n]? = some c ∧ b.drop (n + 1) = x := by
  have hn : n < b.length := by
    rcases Nat.lt_or_ge n b.length with h1 | h1
    · exact h1
    · rw [List.drop_of_length_le h1] at h
      cases h
  rw [List.drop_eq_getElem_cons hn] at h
  injection h with h1 h2
  exact ⟨hn, by rw [List.getElem?_eq_getElem hn, h1], h2⟩
theorem parse_loop (s : ByteArray) (hs : s.size < 140737488355328) : ∀ (d : Nat) (acc : List Lab) (rest : ByteArray), acc.length + d = 17 → rest.size ≤ s.size →
    Ev (fun k => label_Parse.l0 k s acc true rest) (endL s.size (fieldsP d acc (by_ rest))) := by
  intro d
  induction d with
  | zero =>
    intro acc rest hd hz
    refine Ev.step (fun _ => rfl) ?_
    simp only [label_Parse.l0]
    refine Ev.pos trivial (Ev.step (fun _ => rfl) ?_)
    simp only [label_Parse.j1]
    exact Ev.neg (by rw [decide_eq_true_eq]; omega) (Ev.now _)
  | succ d ih =>
    intro acc rest hd hz
    have hb := by_length rest
    refine Ev.step (fun _ => rfl) ?_
    simp only [label_Parse.l0]
    refine Ev.pos trivial (Ev.step (fun _ => rfl) ?_)
    simp only [label_Parse.j1]
    refine Ev.pos (by rw [decide_eq_true_eq]; omega) ?_
    have hc := cut_ev rest (by omega) [(⟨#[61]⟩ : ByteArray)] (by simp)
    have el : ([(⟨#[61]⟩ : ByteArray)] : List ByteArray).map by_ = [[61]] := rfl
    rw [el, cut_eqP] at hc
    cases he : eqP (by_ rest) with
    | none =>
      have hF : fieldsP (d + 1) acc (by_ rest) = none := by simp only [fieldsP, he]
      rw [he] at hc
      rw [hF]
      refine Ev.bind hc ?_
      refine Ev.bind (get_ev _ (by show (⟨#[]⟩ : ByteArray).size < _; exact (by decide))) ?_
      refine Ev.pos (by show (⟨([] : List UInt8).toArray⟩ : ByteArray).toList = []; rw [toList_by, by_mk]) (Ev.step (fun _ => rfl) ?_)
      simp only [label_Parse.j2]
      exact Ev.pos trivial (Ev.now _)
    | some ab =>
      obtain ⟨a, b⟩ := ab
      rw [he] at hc
      refine Ev.bind hc ?_
      obtain ⟨hr, hna⟩ := eqP_some he
      have hlen : (by_ rest).length = a.length + (b.length + 1) := by rw [hr]; simp
      have hbz : (⟨b.toArray⟩ : ByteArray).size = b.length := by rw [← by_length, by_mk]
      have hgv := get_ev (⟨b.toArray⟩ : ByteArray) (by omega)
      rw [by_mk] at hgv
      refine Ev.bind hgv ?_
      refine Ev.neg (by show ¬ (⟨([61] : List UInt8).toArray⟩ : ByteArray).toList = []; rw [toList_by, by_mk]; simp) ?_
      have bad : ∀ x9 x10, Ev (fun k => label_Parse.j2 k s acc (tri (a, [61], b)).1 (tri (a, [61], b)).2.2 x9 x10 true) (([] : List Lab), (0 : Int), false) := fun x9 x10 => by
        refine Ev.step (fun _ => rfl) ?_
        simp only [label_Parse.j2]
        exact Ev.pos trivial (Ev.now _)
      cases hg : getP b with
      | none =>
        have hF : fieldsP (d + 1) acc (by_ rest) = none := by simp only [fieldsP, he, hg]
        rw [hF]
        exact Ev.neg (by simp [getI]) (bad _ _)
      | some vn =>
        obtain ⟨v, n⟩ := vn
        have hgl := getP_len' hg
        refine Ev.pos rfl ?_
        cases hdr : b.drop n with
        | nil =>
          have : b.length ≤ n := by
            rcases Nat.lt_or_ge n b.length with h | h
            · rw [List.drop_eq_getElem_cons h] at hdr; cases hdr
            · exact h
          have e : decide ((getI (some (v, n))).2.1 ≥ ((tri (a, [61], b)).2.2.size : Int)) = true := by
            rw [decide_eq_true_eq]
            show (n : Int) ≥ ((⟨b.toArray⟩ : ByteArray).size : Int)
            omega
          have hF : fieldsP (d + 1) acc (by_ rest) = none := by simp only [fieldsP, he, hg, hdr]
          rw [e, hF]
          exact bad _ _
        | cons c x =>
          obtain ⟨hn, hcn, hx⟩ := drop_cons_get hdr
          have e : decide ((getI (some (v, n))).2.1 ≥ ((tri (a, [61], b)).2.2.size : Int)) = false := by
            rw [decide_eq_false_iff_not]
            show ¬ (n : Int) ≥ ((⟨b.toArray⟩ : ByteArray).size : Int)
            omega
          rw [e]
          refine Ev.step (fun _ => rfl) ?_
          simp only [label_Parse.j2]
          have hw : wrap64 ((n : Int) + 1) = ((n + 1 : Nat) : Int) := w1 n (by omega)
          have hbt : bt (⟨b.toArray⟩ : ByteArray) (n : Int) = (c.toNat : Int) := bt_at_ _ n c (by rw [by_mk]; exact hcn)
          refine Ev.neg (by simp) (Ev.pos (by omega) (Ev.one ?_))
          show Ev (fun k => if 0 ≤ (n : Int) then (if (n : Int) < ((⟨b.toArray⟩ : ByteArray).size : Int) then (if 0 ≤ wrap64 ((n : Int) + 1) then (if wrap64 ((n : Int) + 1) ≤ ((⟨b.toArray⟩ : ByteArray).size : Int) then (if bt (⟨b.toArray⟩ : ByteArray) (n : Int) = 125 then ((label_Right.f k (acc ++ [mkL a v])).bind fun t255 => (if t255 = true then (some (acc ++ [mkL a v], wrap64 ((s.size : Int) - (((⟨b.toArray⟩ : ByteArray).extract (wrap64 ((n : Int) + 1)).toNat (⟨b.toArray⟩ : ByteArray).size).size : Int)), true)) else (some ([], 0, false)))) else (label_Parse.l0 k s (acc ++ [mkL a v]) (bt (⟨b.toArray⟩ : ByteArray) (n : Int) == 44) ((⟨b.toArray⟩ : ByteArray).extract (wrap64 ((n : Int) + 1)).toNat (⟨b.toArray⟩ : ByteArray).size))) else none) else none) else none) else none) _
          rw [hw, hbt, Int.toNat_natCast]
          have hex : by_ ((⟨b.toArray⟩ : ByteArray).extract (n + 1) (⟨b.toArray⟩ : ByteArray).size) = x := by
            rw [by_extract, by_mk, hbz, List.take_of_length_le (Nat.le_refl _), hx]
          generalize hE : (⟨b.toArray⟩ : ByteArray).extract (n + 1) (⟨b.toArray⟩ : ByteArray).size = E at *
          have hEz : E.size = x.length := by rw [← by_length, hex]
          have hxl : x.length + (n + 1) = b.length := by rw [← hx, List.length_drop]; omega
          refine Ev.pos (by omega) (Ev.pos (by omega) (Ev.pos (by omega) (Ev.pos (by omega) ?_)))
          have hal : (acc ++ [mkL a v]).length = acc.length + 1 := by simp
          by_cases h1 : (c.toNat : Int) = 125
          · have hc125 : c = 125 := UInt8.toNat_inj.1 (by show c.toNat = 125; omega)
            have hF : fieldsP (d + 1) acc (by_ rest) = some (acc ++ [mkL a v], x) := by simp only [fieldsP, he, hg, hdr]; rw [if_pos hc125]
            rw [hF]
            refine Ev.pos h1 (Ev.bind (right_ev _ (by omega)) ?_)
            unfold endL
            simp only []
            cases hR : rightL (acc ++ [mkL a v]) with
            | true =>
              refine Ev.pos rfl (Ev.ret ?_)
              rw [if_pos rfl, hEz, wrap_in (by omega) (by omega)]
            | false =>
              refine Ev.neg (by simp) (Ev.ret ?_)
              rw [if_neg (by simp)]
          · have hF : fieldsP (d + 1) acc (by_ rest) = if c = 44 then fieldsP d (acc ++ [mkL a v]) x else none := by simp only [fieldsP, he, hg, hdr]; rw [if_neg (fun h => h1 (by rw [h]; rfl))]
            rw [hF]
            refine Ev.neg h1 ?_
            by_cases h2 : c = 44
            · rw [if_pos h2, h2, ← hex]
              exact ih _ E (by omega) (by omega)
            · rw [if_neg h2]
              have e2 : ((c.toNat : Int) == 44) = false := by
                rw [beq_eq_false_iff_ne]
                intro h
                exact h2 (UInt8.toNat_inj.1 (by show c.toNat = 44; omega))
              rw [e2]
              refine Ev.step (fun _ => rfl) ?_
              simp only [label_Parse.l0]
              refine Ev.neg (by simp) (Ev.step (fun _ => rfl) ?_)
              simp only [label_Parse.j1]
              exact Ev.neg (by simp) (Ev.now _)
/-- the set that a text begins with -/
def parseL (t : List UInt8) : List Lab × Int × Bool :=
  if pfxP [123, 125] t = true then ([], 2, true) else match t with
  | [] => ([], 0, false)
  | c :: r => if c = 123 then endL t.length (fieldsP 17 [] r) else ([], 0, false)
theorem cutpfx_f (t op : ByteArray) : strings_CutPrefix.f t op = some (if pfxP (by_ op) (by_ t) = true then (t.extract op.size t.size, true) else (t, false)) := by
  unfold strings_CutPrefix.f stringslite_CutPrefix.f
  have h := pfx_f t op
  unfold strings_HasPrefix.f at h
  cases hp : pfxP (by_ op) (by_ t) with
  | true =>
    rw [hp] at h
    have hl := pfxP_len hp
    rw [by_length, by_length] at hl
    cases hq : stringslite_HasPrefix.f t op with
    | none => rw [hq] at h; cases h
    | some b =>
      rw [hq] at h
      obtain rfl : b = true := Option.some.inj h
      rw [Option.bind_some, if_pos rfl, if_pos (by omega), if_pos (by omega), if_pos rfl]
      rfl
  | false =>
    rw [hp] at h
    cases hq : stringslite_HasPrefix.f t op with
    | none => rw [hq] at h; cases h
    | some b =>
      rw [hq] at h
      obtain rfl : b = false := Option.some.inj h
      rw [Option.bind_some, if_neg (by simp), if_neg (by simp)]
      rfl
theorem parse_set_ev (s : ByteArray) (hs : s.size < 140737488355328) : Ev (fun k => label_Parse.f k s) (parseL (by_ s)) := by
  have hb := by_length s
  unfold label_Parse.f
  rw [pfx_f, cutpfx_f]
  refine Ev.one ?_
  show Ev (fun k => if pfxP [123, 125] (by_ s) = true then _ else (some (if pfxP [123] (by_ s) = true then (s.extract 1 s.size, true) else (s, false))).bind _) _
  unfold parseL
  by_cases h : pfxP [123, 125] (by_ s) = true
  · rw [if_pos h]
    exact Ev.pos h (Ev.now _)
  rw [if_neg h]
  refine Ev.neg h ?_
  cases hl : by_ s with
  | nil =>
    have : pfxP [123] ([] : List UInt8) = false := by decide
    simp only [this]
    refine Ev.one ?_
    refine Ev.step (fun _ => rfl) ?_
    simp only [label_Parse.l0]
    refine Ev.neg (by simp) (Ev.step (fun _ => rfl) ?_)
    simp only [label_Parse.j1]
    exact Ev.neg (by simp) (Ev.now _)
  | cons c r =>
    have hp : pfxP [123] (c :: r) = (c == 123) := by simp [pfxP]
    rw [hp]
    show Ev _ (if c = 123 then endL (c :: r).length (fieldsP 17 [] r) else ([], 0, false))
    by_cases hc : c = 123
    · rw [if_pos hc, beq_iff_eq.2 hc, if_pos rfl]
      refine Ev.one ?_
      have hex : by_ (s.extract 1 s.size) = r := by
        rw [by_extract, List.take_of_length_le (by omega), hl]
        rfl
      have h2 := parse_loop s hs 17 [] (s.extract 1 s.size) rfl (by rw [← by_length, hex]; rw [hl] at hb; simp at hb; omega)
      rw [hex] at h2
      rw [hl] at hb
      rw [hb]
      exact h2
    · rw [if_neg hc, beq_eq_false_iff_ne.2 hc, if_neg (by simp)]
      refine Ev.one ?_
      refine Ev.step (fun _ => rfl) ?_
      simp only [label_Parse.l0]
      refine Ev.neg (by simp) (Ev.step (fun _ => rfl) ?_)
      simp only [label_Parse.j1]
      exact Ev.neg (by simp) (Ev.now _)

/-! ### Text -/
def fieldP (p : Lab) : List UInt8 := by_ p.f0 ++ 61 :: putP (by_ p.f1)
def textL (l : List Lab) : List UInt8 := 123 :: (joinP [44] (l.map fieldP) ++ [125])
theorem text_loop (l : List Lab) (hl : l.length ≤ 1000000) (hz : ∀ p ∈ l, p.f0.size ≤ 2000000 ∧ p.f1.size ≤ 2000000) (hj : (joinP [44] (l.map fieldP)).length ≤ 1000000000) : ∀ (d i : Nat) (acc : List ByteArray), l.length - i = d → i ≤ l.length → acc.map by_ = (l.take i).map fieldP →
    Ev (fun k => label_Set_Text.l0 k acc l (l.length : Int) (i : Int)) ⟨(textL l).toArray⟩ := by
  intro d
  induction d with
  | zero =>
    intro i acc hd hi ha
    rw [List.take_of_length_le (by omega)] at ha
    have hal : acc.length = l.length := by have := congrArg List.length ha; simpa using this
    refine Ev.step (fun _ => rfl) ?_
    simp only [label_Set_Text.l0]
    refine Ev.neg (by omega) ?_
    rw [join_f _ _ (by omega) (by rw [ha]; show (joinP [44] _).length ≤ _; omega), ha]
    refine Ev.one ?_
    have hbz : (⟨(joinP (by_ ⟨#[44]⟩) (l.map fieldP)).toArray⟩ : ByteArray).size = (joinP [44] (l.map fieldP)).length := by rw [← by_length, by_mk]; rfl
    refine Ev.pos (by rw [hbz]; omega) (Ev.pos (by rw [ByteArray.size_append, hbz]; show 1 + _ + 1 ≤ _; omega) (Ev.ret ?_))
    apply by_ext
    rw [by_append, by_append, by_mk]
    rfl
  | succ d ih =>
    intro i acc hd hi ha
    have h : i < l.length := by omega
    have hp := hz _ (List.getElem_mem h)
    have hal : acc.length = i := by have := congrArg List.length ha; simp at this; omega
    refine Ev.step (fun _ => rfl) ?_
    simp only [label_Set_Text.l0]
    refine Ev.pos (by omega) (Ev.pos (by omega) (Ev.pos (by omega) ?_))
    rw [rdLab l i h, w1 i (by omega)]
    refine Ev.pos (by omega) (Ev.bind (put_ev _ (by unfold SmallN; omega)) ?_)
    have hpz : (⟨(putP (by_ l[i].f1)).toArray⟩ : ByteArray).size ≤ 4 * l[i].f1.size + 2 := by
      rw [← by_length, by_mk, putP_len]
      have := (flat_len (by_ l[i].f1)).2
      rw [by_length] at this
      omega
    refine Ev.pos (by rw [ByteArray.size_append]; show _ + 1 + _ ≤ _; omega) (Ev.pos (by omega) (ih (i + 1) _ (by omega) (by omega) ?_))
    rw [List.map_append, ha, List.take_add_one, List.getElem?_eq_getElem h]
    simp only [Option.toList_some, List.map_append, List.map_cons, List.map_nil]
    congr 2
    rw [by_append, by_append, by_mk]
    unfold fieldP
    rw [List.append_assoc]
    rfl
theorem text_set_ev (l : List Lab) (hl : l.length ≤ 1000000) (hz : ∀ p ∈ l, p.f0.size ≤ 2000000 ∧ p.f1.size ≤ 2000000) (hj : (joinP [44] (l.map fieldP)).length ≤ 1000000000) : Ev (fun k => label_Set_Text.f k l) ⟨(textL l).toArray⟩ := by
  unfold label_Set_Text.f
  exact text_loop l hl hz hj l.length 0 [] (by omega) (by omega) rfl
end Go.Proofs.YtjmbddgbojcpmaaDoor.B
end

section
set_option linter.unusedVariables false
set_option linter.unusedSimpArgs false
namespace Go.Proofs.YtjmbddgbojcpmaaDoor.B
open Go.RowKit Go.Proofs.YtjmbddgbojcpmaaDoor.X Go.Proofs.YtjmbddgbojcpmaaDoorW.PrintWords Go.Proofs.YtjmbddgbojcpmaaDoorW.PrintLast

abbrev Tg := S71
theorem rdTag (l : List Tg) (i : Nat) (h : i < l.length) : rd_T71 l (i : Int) = l[i] := by simp [rd_T71, h]
/-! ### what Of tells of a name -/
theorem ofP_names : ∀ (L l : List Lab), (∀ p ∈ l, nameP (by_ p.f0) = true) → ∀ p ∈ ofP l L, nameP (by_ p.f0) = true
  | [], _, h => h
  | q :: L, l, h => by
    unfold ofP
    rw [List.foldl_cons]
    refine ofP_names L _ ?_
    split
    · rename_i hq
      intro p hp
      rcases stepP_mem l q p hp with rfl | hp
      · exact hq
      · exact h p hp
    · exact h
theorem of_rise (L : List Lab) : Rise (ofP [] L) := ofP_rise L [] List.Pairwise.nil
theorem of_names (L : List Lab) : ∀ p ∈ ofP [] L, nameP (by_ p.f0) = true := ofP_names L [] (fun p h => by simp at h)
theorem of_len (L : List Lab) : (ofP [] L).length ≤ L.length := by have := ofP_length L []; simpa using this
end Go.Proofs.YtjmbddgbojcpmaaDoor.B
end

section
set_option linter.unusedVariables false
set_option linter.unusedSimpArgs false
namespace Go.Proofs.YtjmbddgbojcpmaaDoor.B
open Go.RowKit Go.Proofs.YtjmbddgbojcpmaaDoor.X Go.Proofs.YtjmbddgbojcpmaaDoorW.PrintWords Go.Proofs.YtjmbddgbojcpmaaDoorW.PrintLast

theorem name_no61 {l : List UInt8} (h : nameP l = true) : 61 ∉ l := by
  cases l with
  | nil => simp
  | cons c l =>
    unfold nameP at h
    rw [Bool.and_eq_true] at h
    intro hm
    have := List.all_eq_true.1 h.2 61 hm
    exact absurd this (by decide)
theorem name_head {l : List UInt8} (h : nameP l = true) : ∃ c r, l = c :: r ∧ c ≠ 125 := by
  cases l with
  | nil => cases h
  | cons c l =>
    refine ⟨c, l, rfl, fun e => ?_⟩
    unfold nameP at h
    rw [Bool.and_eq_true] at h
    have := List.all_eq_true.1 h.2 c List.mem_cons_self
    rw [e] at this
    exact absurd this (by decide)
theorem mk_lab (p : Lab) : mkL (by_ p.f0) (by_ p.f1) = p := by
  unfold mkL
  cases p
  simp only [mkB]
theorem getP_field (p : Lab) (r : List UInt8) : eqP (fieldP p ++ r) = if 61 ∈ by_ p.f0 then eqP (fieldP p ++ r) else some (by_ p.f0, putP (by_ p.f1) ++ r) := by
  split
  · rfl
  · rename_i h
    unfold fieldP
    rw [List.append_assoc]
    exact eqP_at _ h
theorem fields_put : ∀ (l : List Lab) (acc : List Lab) (d : Nat) (r : List UInt8), l ≠ [] → l.length ≤ d → (∀ p ∈ l, nameP (by_ p.f0) = true) → fieldsP d acc (joinP [44] (l.map fieldP) ++ 125 :: r) = some (acc ++ l, r)
  | [], _, _, _, h, _, _ => absurd rfl h
  | [p], acc, d, r, _, hd, hn => by
    obtain ⟨d, rfl⟩ : ∃ q, d = q + 1 := ⟨d - 1, by simp at hd; omega⟩
    have h61 := name_no61 (hn p List.mem_cons_self)
    have he := getP_field p (125 :: r)
    rw [if_neg h61] at he
    simp only [List.map_cons, List.map_nil, joinP_one]
    have hd2 : (putP (by_ p.f1) ++ 125 :: r).drop (putP (by_ p.f1)).length = 125 :: r := List.drop_left
    simp only [fieldsP, he, getP_put, hd2]
    rw [if_pos trivial, mk_lab]
  | p :: q :: l, acc, d, r, _, hd, hn => by
    obtain ⟨d, rfl⟩ : ∃ q, d = q + 1 := ⟨d - 1, by simp at hd; omega⟩
    have h61 := name_no61 (hn p List.mem_cons_self)
    have he := getP_field p (44 :: (joinP [44] ((q :: l).map fieldP) ++ 125 :: r))
    rw [if_neg h61] at he
    have e1 : joinP [44] ((p :: q :: l).map fieldP) ++ 125 :: r = fieldP p ++ (44 :: (joinP [44] ((q :: l).map fieldP) ++ 125 :: r)) := by
      simp only [List.map_cons, joinP_cons, List.append_assoc]
      rfl
    rw [e1]
    have hd2 : (putP (by_ p.f1) ++ 44 :: (joinP [44] ((q :: l).map fieldP) ++ 125 :: r)).drop (putP (by_ p.f1)).length = 44 :: (joinP [44] ((q :: l).map fieldP) ++ 125 :: r) := List.drop_left
    simp only [fieldsP, he, getP_put, hd2]
    rw [if_neg (by decide), if_pos trivial, mk_lab, fields_put (q :: l) (acc ++ [p]) d r (by simp) (by simp at hd ⊢; omega) (fun x hx => hn x (List.mem_cons_of_mem _ hx)), List.append_assoc]
    rfl
theorem text_second {l : List Lab} (hl : l ≠ []) (hn : ∀ p ∈ l, nameP (by_ p.f0) = true) (r : List UInt8) : ∃ c x, joinP [44] (l.map fieldP) ++ r = c :: x ∧ c ≠ 125 := by
  cases l with
  | nil => exact absurd rfl hl
  | cons p l =>
    obtain ⟨c, x, hc, hc2⟩ := name_head (hn p List.mem_cons_self)
    have : ∃ y, joinP [44] ((p :: l).map fieldP) = fieldP p ++ y := by
      cases l with
      | nil => exact ⟨[], by simp only [List.map_cons, List.map_nil, joinP_one, List.append_nil]⟩
      | cons q l => exact ⟨[44] ++ joinP [44] ((q :: l).map fieldP), by simp only [List.map_cons, joinP_cons, List.append_assoc]⟩
    obtain ⟨y, hy⟩ := this
    refine ⟨c, x ++ (61 :: putP (by_ p.f1) ++ (y ++ r)), ?_, hc2⟩
    rw [hy]
    unfold fieldP
    rw [hc]
    simp
theorem pfx_two (c : UInt8) (x : List UInt8) : pfxP [123, 125] (123 :: c :: x) = (c == 125) := by
  simp [pfxP]
theorem parse_put (l : List Lab) (hl : l.length ≤ 17) (hn : ∀ p ∈ l, nameP (by_ p.f0) = true) (r : List UInt8) :
    parseL (textL l ++ r) = if rightL l = true then (l, ((textL l).length : Int), true) else ([], 0, false) := by
  by_cases h0 : l = []
  · subst h0
    rfl
  · obtain ⟨c, x, hx, hc⟩ := text_second h0 hn (125 :: r)
    have e : textL l ++ r = 123 :: (joinP [44] (l.map fieldP) ++ 125 :: r) := by
      unfold textL
      simp
    have hlen : ((textL l ++ r).length : Int) - (r.length : Int) = ((textL l).length : Int) := by
      rw [List.length_append]
      omega
    unfold parseL
    rw [if_neg (by rw [e, hx, pfx_two, beq_iff_eq]; exact hc)]
    rw [e] at hlen ⊢
    show (if (123 : UInt8) = 123 then endL (123 :: (joinP [44] (l.map fieldP) ++ 125 :: r)).length (fieldsP 17 [] (joinP [44] (l.map fieldP) ++ 125 :: r)) else ([], 0, false)) = _
    rw [if_pos rfl, fields_put l [] 17 r h0 hl hn, List.nil_append]
    unfold endL
    simp only []
    rw [hlen]
theorem fields_more : ∀ (d : Nat) (acc : List Lab) (x z : List UInt8) (l : List Lab) (y : List UInt8), fieldsP d acc x = some (l, y) → fieldsP d acc (x ++ z) = some (l, y ++ z) ∧ y.length < x.length
  | 0, _, _, _, _, _, h => by cases h
  | d + 1, acc, x, z, l, y, h => by
    unfold fieldsP at h
    cases he : eqP x with
    | none => rw [he] at h; cases h
    | some ab =>
      obtain ⟨a, b⟩ := ab
      rw [he] at h
      simp only [] at h
      cases hg : getP b with
      | none => rw [hg] at h; cases h
      | some vn =>
        obtain ⟨v, n⟩ := vn
        rw [hg] at h
        simp only [] at h
        cases hd : b.drop n with
        | nil => rw [hd] at h; cases h
        | cons c t =>
          rw [hd] at h
          simp only [] at h
          obtain ⟨hn, _, ht⟩ := drop_cons_get hd
          have hd2 : (b ++ z).drop n = c :: (t ++ z) := by
            rw [List.drop_append_of_le_length (by omega), hd]
            rfl
          have hbx : x.length = a.length + (b.length + 1) := by
            obtain ⟨hx, _⟩ := eqP_some he
            rw [hx]
            simp
          have htl : t.length < b.length := by
            rw [← ht, List.length_drop]
            omega
          simp only [fieldsP, eqP_more z he, getR_more z hg, hd2]
          by_cases h1 : c = 125
          · rw [if_pos h1] at h ⊢
            have h2 := Option.some.inj h
            injection h2 with e1 e2
            rw [e1, ← e2]
            exact ⟨rfl, by omega⟩
          · rw [if_neg h1] at h ⊢
            by_cases h2 : c = 44
            · rw [if_pos h2] at h ⊢
              obtain ⟨k1, k2⟩ := fields_more d _ t z l y h
              exact ⟨k1, by omega⟩
            · rw [if_neg h2] at h
              cases h
theorem parse_more {x : List UInt8} (z : List UInt8) (h : (parseL x).2.2 = true) : parseL (x ++ z) = parseL x ∧ (parseL x).2.1 ≤ (x.length : Int) := by
  unfold parseL at h ⊢
  by_cases hp : pfxP [123, 125] x = true
  · have hl := pfxP_len hp
    have hp2 : pfxP [123, 125] (x ++ z) = true := by
      unfold pfxP at hp ⊢
      rw [List.take_append_of_le_length hl]
      exact hp
    rw [if_pos hp, if_pos hp2]
    simp only [List.length_cons, List.length_nil] at hl
    exact ⟨rfl, by show (2 : Int) ≤ _; omega⟩
  · rw [if_neg hp] at h ⊢
    cases x with
    | nil => cases h
    | cons c r =>
      by_cases hc : c = 123
      · simp only [hc, if_true] at h ⊢
        cases hf : fieldsP 17 [] r with
        | none => rw [hf] at h; cases h
        | some ly =>
          obtain ⟨l, y⟩ := ly
          obtain ⟨k1, k2⟩ := fields_more 17 [] r z l y hf
          have hp2 : ¬ pfxP [123, 125] (123 :: r ++ z) = true := by
            intro hp2
            cases r with
            | nil =>
              simp [fieldsP, eqP] at hf
            | cons c2 r2 =>
              rw [hc] at hp
              rw [pfx_two] at hp
              have : pfxP [123, 125] (123 :: c2 :: (r2 ++ z)) = true := hp2
              rw [pfx_two] at this
              exact hp this
          rw [if_neg hp2]
          show endL (123 :: (r ++ z)).length (fieldsP 17 [] (r ++ z)) = _ ∧ _
          rw [k1]
          unfold endL
          simp only []
          have e : (((123 :: (r ++ z) : List UInt8).length : Nat) : Int) - ((y ++ z).length : Int) = (((123 :: r : List UInt8).length : Nat) : Int) - (y.length : Int) := by
            simp only [List.length_cons, List.length_append]
            omega
          rw [e]
          refine ⟨rfl, ?_⟩
          split
          · show (((123 :: r : List UInt8).length : Nat) : Int) - (y.length : Int) ≤ _
            simp only [List.length_cons]
            omega
          · show (0 : Int) ≤ _
            omega
      · simp only [hc, if_false] at h
        cases h
theorem parse_short (l : List Lab) (hl : l.length ≤ 17) (hn : ∀ p ∈ l, nameP (by_ p.f0) = true) (k : Nat) (hk : k < (textL l).length) : (parseL ((textL l).take k)).2.2 = false := by
  cases h : (parseL ((textL l).take k)).2.2 with
  | false => rfl
  | true =>
    exfalso
    obtain ⟨h1, h2⟩ := parse_more ((textL l).drop k) h
    rw [List.take_append_drop] at h1
    have h3 := parse_put l hl hn []
    rw [List.append_nil] at h3
    rw [← h1, h3] at h2 h
    split at h
    · rename_i hr
      rw [if_pos hr] at h2
      rw [List.length_take] at h2
      have h2' : ((textL l).length : Int) ≤ ((min k (textL l).length : Nat) : Int) := h2
      omega
    · cases h
theorem join_len (c : Nat) : ∀ l : List (List UInt8), (∀ x ∈ l, x.length ≤ c) → (joinP [44] l).length ≤ l.length * (c + 1)
  | [], _ => by simp [joinP_nil]
  | [x], h => by
    rw [joinP_one]
    have := h x List.mem_cons_self
    simp
    omega
  | x :: y :: l, h => by
    have ih := join_len c (y :: l) (fun z hz => h z (List.mem_cons_of_mem _ hz))
    have h1 := h x List.mem_cons_self
    rw [joinP_cons, List.length_append, List.length_append]
    simp only [List.length_cons, List.length_nil] at ih ⊢
    rw [Nat.add_mul]
    omega
theorem field_len (p : Lab) : (fieldP p).length ≤ p.f0.size + 1 + (4 * p.f1.size + 2) := by
  unfold fieldP
  rw [List.length_append, List.length_cons, by_length, putP_len]
  have := (flat_len (by_ p.f1)).2
  rw [by_length] at this
  omega
end Go.Proofs.YtjmbddgbojcpmaaDoor.B
end

section
set_option linter.unusedVariables false
set_option linter.unusedSimpArgs false
namespace Go.Proofs.YtjmbddgbojcpmaaDoor.Pure
open Go.RowKit Go.Proofs.YtjmbddgbojcpmaaDoor.X Go.Proofs.YtjmbddgbojcpmaaDoor.B Go.Proofs.YtjmbddgbojcpmaaDoorW.PrintWords Go.Proofs.YtjmbddgbojcpmaaDoorW.PrintLast

def in64 (x : Int) : Prop := -9223372036854775808 ≤ x ∧ x ≤ 9223372036854775807
instance (x : Int) : Decidable (in64 x) := inferInstanceAs (Decidable (_ ∧ _))
theorem in64_wf {n : Int} (h : (Lit.int .i64 n).wf = true) : in64 n := by
  simp only [Lit.wf, IntKind.min, IntKind.max, IntKind.signed, IntKind.bits, Bool.and_eq_true, decide_eq_true_eq, if_true] at h
  unfold in64
  omega
theorem in64_wrap (x : Int) : in64 (wrap64 x) := by unfold in64 wrap64; omega
/-! ### of two -/
/-! ### of many -/
section
variable (l : List Int) (hl : ∀ x ∈ l, in64 x) (hs : l.length < 4611686018427387904)
include hl hs
end
end Go.Proofs.YtjmbddgbojcpmaaDoor.Pure
end

section
set_option linter.unusedVariables false
set_option linter.unusedSimpArgs false
namespace Go.Proofs.YtjmbddgbojcpmaaDoor.Pure
open Go.RowKit Go.Proofs.YtjmbddgbojcpmaaDoor.X Go.Proofs.YtjmbddgbojcpmaaDoor.B Go.Proofs.YtjmbddgbojcpmaaDoorW.PrintWords Go.Proofs.YtjmbddgbojcpmaaDoorW.PrintLast
open Lib (itoa decDigits parseUint10 NumEnd)

theorem dec_small {u : Nat} (h : u < 10) : decDigits u = [UInt8.ofNat (48 + u)] := by rw [decDigits, dif_pos h]
theorem dec_great {u : Nat} (h : ¬ u < 10) : decDigits u = decDigits (u / 10) ++ [UInt8.ofNat (48 + u % 10)] := by rw [decDigits, dif_neg h]
def digitB (c : UInt8) : Prop := 48 ≤ c.toNat ∧ c.toNat ≤ 57
instance (c : UInt8) : Decidable (digitB c) := inferInstanceAs (Decidable (_ ∧ _))
theorem dg_nat {d : Nat} (h : d < 10) : (UInt8.ofNat (48 + d)).toNat = 48 + d := by
  rw [UInt8.toNat_ofNat_of_lt']
  show 48 + d < 256
  omega
theorem dec_digit : ∀ (u : Nat), ∀ c ∈ decDigits u, digitB c := by
  intro u
  induction u using Nat.strongRecOn with
  | _ u ih =>
    intro c hc
    by_cases h : u < 10
    · rw [dec_small h] at hc
      obtain rfl := List.mem_singleton.1 hc
      unfold digitB
      rw [dg_nat h]
      omega
    · rw [dec_great h] at hc
      rcases List.mem_append.1 hc with hc | hc
      · exact ih (u / 10) (by omega) c hc
      · obtain rfl := List.mem_singleton.1 hc
        unfold digitB
        rw [dg_nat (by omega)]
        omega
theorem dec_len : ∀ (d u : Nat), u < 10 ^ (d + 1) → (decDigits u).length ≤ d + 1 := by
  intro d
  induction d with
  | zero =>
    intro u h
    rw [dec_small (by simpa using h)]
    simp
  | succ d ih =>
    intro u h
    by_cases h1 : u < 10
    · rw [dec_small h1]
      simp
    · rw [dec_great h1, List.length_append]
      have := ih (u / 10) (by rw [Nat.pow_succ] at h; omega)
      simp
      omega
theorem dec_ne (u : Nat) : decDigits u ≠ [] := by
  by_cases h : u < 10
  · rw [dec_small h]
    simp
  · rw [dec_great h]
    simp
theorem itoa_len {v : Int} (h : in64 v) : (itoa v).length ≤ 20 := by
  unfold in64 at h
  have := fun u (h : u < 10 ^ (18 + 1)) => dec_len 18 u h
  have e : (10 : Nat) ^ (18 + 1) = 10000000000000000000 := by decide
  rw [e] at this
  unfold itoa
  split
  · rw [List.length_cons]
    have := this v.natAbs (by omega)
    omega
  · have := this v.toNat (by omega)
    omega
theorem itoa_byte (v : Int) : ∀ c ∈ itoa v, digitB c ∨ c = 45 := by
  unfold itoa
  split
  · intro c hc
    rcases List.mem_cons.1 hc with rfl | hc
    · exact .inr rfl
    · exact .inl (dec_digit _ c hc)
  · intro c hc
    exact .inl (dec_digit _ c hc)

/-! ### the program's Parse -/
theorem pu_append : ∀ (l r : List UInt8) (a : Nat), parseUint10 a (l ++ r) = match parseUint10 a l with | .ok v => parseUint10 v r | e => e
  | [], r, a => rfl
  | c :: l, r, a => by
    simp only [List.cons_append, parseUint10]
    split
    · split
      · rfl
      · split
        · rfl
        · exact pu_append l r _
    · rfl
theorem pu_dec : ∀ (u : Nat), u < 18446744073709551616 → parseUint10 0 (decDigits u) = .ok u := by
  intro u
  induction u using Nat.strongRecOn with
  | _ u ih =>
    intro hu
    by_cases h : u < 10
    · rw [dec_small h]
      simp only [parseUint10]
      rw [dg_nat h, if_pos (by omega), if_neg (by omega), if_neg (by omega)]
      congr 1
      omega
    · rw [dec_great h, pu_append, ih (u / 10) (by omega) (by omega)]
      simp only [parseUint10]
      rw [dg_nat (by omega), if_pos (by omega), if_neg (by omega), if_neg (by omega)]
      congr 1
      omega
theorem parse_itoa {v : Int} (h : in64 v) : Lib.parseIntB 64 (itoa v) = .ok v := by
  rw [Lib.parseIntB_64]
  unfold in64 at h
  unfold itoa
  split
  · rename_i hn
    simp only [Lib.atoiAll]
    rw [if_pos (show (45 : UInt8).toNat = 43 ∨ (45 : UInt8).toNat = 45 from Or.inr rfl)]
    unfold Lib.parseMag
    rw [if_neg (dec_ne _), pu_dec _ (by omega)]
    simp only []
    rw [if_neg (fun h => h.1 rfl), if_neg (fun h => by have := h.2; omega), if_pos (show (45 : UInt8).toNat = 45 from rfl)]
    congr 1
    omega
  · rename_i hn
    cases hd : decDigits v.toNat with
    | nil => exact absurd hd (dec_ne _)
    | cons c r =>
      have hc := dec_digit v.toNat c (by rw [hd]; exact List.mem_cons_self)
      unfold digitB at hc
      simp only [Lib.atoiAll]
      rw [if_neg (by omega)]
      unfold Lib.parseMag
      rw [if_neg (by simp), ← hd, pu_dec _ (by omega)]
      simp only []
      rw [if_neg (by omega), if_neg (by omega), if_neg (by omega)]
      congr 1
      omega
theorem parseN_itoa {v : Int} (h : in64 v) : parseN (itoa v) = (v, true) := by
  unfold parseN
  rw [parse_itoa h]
  simp
theorem text_ev {v : Int} (h : in64 v) : num_Text.f v = some ⟨(itoa v).toArray⟩ := by
  unfold num_Text.f
  unfold in64 at h
  rw [if_pos h]
theorem parse_ev (s : ByteArray) (h : s.size ≤ 281474976710656) : num_Parse.f s = some (parseN (by_ s)) := by
  unfold num_Parse.f
  rw [if_pos h]
  rfl

/-! ### the document's Text -/
/-! ### the document's Parse -/
end Go.Proofs.YtjmbddgbojcpmaaDoor.Pure
end

section
set_option linter.unusedVariables false
set_option linter.unusedSimpArgs false
namespace Go.Proofs.YtjmbddgbojcpmaaDoor.B
open Go.RowKit Go.Proofs.YtjmbddgbojcpmaaDoor.X Go.Proofs.YtjmbddgbojcpmaaDoor.Pure Go.Proofs.YtjmbddgbojcpmaaDoorW.PrintWords Go.Proofs.YtjmbddgbojcpmaaDoorW.PrintLast

abbrev Ent := S25
set_option maxRecDepth 100000 in
theorem examples13_ev : Ev (fun k => archivistlaw13_examples.f k) true :=
  Ev.of (k := 60) (fun k => archivistlaw13_examples.mono k) (by kernel_rfl)
/-! ### how two stand -/
def cI (a b : Int) : Int := if a < b then -1 else if a > b then 1 else 0
theorem cI_stands : Stands cI where
  one a b := by unfold cI; split <;> (try split) <;> omega
  eq a b := by unfold cI; split <;> (try split) <;> omega
  flip a b := by unfold cI; (repeat' split) <;> omega
  round a b d := by unfold cI; (repeat' split) <;> omega
theorem cI_f (a b : Int) : cmp_Compare_int64.f a b = some (cI a b) := by
  unfold cmp_Compare_int64.f cmp_isNaN_int64.f cI
  simp only [bne_self_eq_false, Option.bind_some, Bool.false_eq_true, if_false]
  by_cases h1 : a < b
  · rw [if_pos h1, if_pos h1]
  · rw [if_neg h1, if_neg h1]
    by_cases h2 : a > b
    · rw [if_pos h2, if_pos h2]
    · rw [if_neg h2, if_neg h2]
theorem Stands.lex {α β γ : Type} {c1 : α → α → Int} {c2 : β → β → Int} (h1 : Stands c1) (h2 : Stands c2) (p : γ → α) (q : γ → β) (inj : ∀ a b, p a = p b → q a = q b → a = b) : Stands (fun x y => if c1 (p x) (p y) = 0 then c2 (q x) (q y) else c1 (p x) (p y)) where
  one a b := by
    (try dsimp only)
    split
    · exact h2.one _ _
    · exact h1.one _ _
  eq a b := by
    (try dsimp only)
    have e0 := h1.eq (p a) (p b)
    have e1 := h2.eq (q a) (q b)
    by_cases h : c1 (p a) (p b) = 0
    · rw [if_pos h]
      exact ⟨fun h2 => inj a b (e0.1 h) (e1.1 h2), fun e => by subst e; exact e1.2 rfl⟩
    · rw [if_neg h]
      exact ⟨fun h2 => absurd h2 h, fun e => by subst e; exact e0.2 rfl⟩
  flip a b := by
    (try dsimp only)
    have f0 := h1.flip (p a) (p b)
    have f1 := h2.flip (q a) (q b)
    by_cases h : c1 (p a) (p b) = 0
    · rw [if_pos h, if_pos (by omega), f1]
    · rw [if_neg h, if_neg (by omega), f0]
  round a b d := by
    (try dsimp only)
    intro g h
    by_cases g1 : c1 (p a) (p b) = 0
    · rw [if_pos g1] at g
      rw [(h1.eq _ _).1 g1]
      by_cases g2 : c1 (p b) (p d) = 0
      · rw [if_pos g2] at h ⊢
        exact h2.round _ _ _ g h
      · rw [if_neg g2] at h ⊢
        exact h
    · rw [if_neg g1] at g
      by_cases g2 : c1 (p b) (p d) = 0
      · rw [← (h1.eq _ _).1 g2, if_neg g1]
        exact g
      · rw [if_neg g2] at h
        have := h1.round _ _ _ g h
        rw [this]
        rfl
theorem ordL_stands : Stands ordL := ⟨ordL_one, ordL_eq, ordL_flip, ordL_round⟩
def ordE (x y : Ent) : Int := if cI x.f0 y.f0 = 0 then (if ordL x.f1 y.f1 = 0 then cB x.f2 y.f2 else ordL x.f1 y.f1) else cI x.f0 y.f0
theorem ordE_stands : Stands ordE :=
  Stands.lex (c2 := fun (x y : List Lab × ByteArray) => if ordL x.1 y.1 = 0 then cB x.2 y.2 else ordL x.1 y.1) cI_stands (Stands.lex ordL_stands cB_stands Prod.fst Prod.snd (fun a b h1 h2 => Prod.ext h1 h2)) (fun x : Ent => x.f0) (fun x : Ent => (x.f1, x.f2)) (fun a b h1 h2 => by
    cases a
    cases b
    simp only [Prod.mk.injEq] at h1 h2
    obtain ⟨h2, h3⟩ := h2
    subst h1 h2 h3
    rfl)
theorem or3_ev (a b c : Int) : Ev (fun k => cmp_Or_int.f k [a, b, c]) (if a = 0 then (if b = 0 then c else b) else a) := by
  unfold cmp_Or_int.f
  refine Ev.step (fun _ => rfl) ?_
  simp only [cmp_Or_int.l0]
  refine Ev.pos (by simp) (Ev.pos (by decide) (Ev.pos (by simp) ?_))
  have r0 : rd [a, b, c] 0 = a := rfl
  rw [r0]
  by_cases h : a = 0
  · rw [if_pos h]
    refine Ev.pos h (Ev.step (fun _ => rfl) ?_)
    simp only [cmp_Or_int.l0]
    rw [show wrap64 (0 + 1) = 1 by rw [wrap_in] <;> omega]
    refine Ev.pos (by simp) (Ev.pos (by decide) (Ev.pos (by simp) ?_))
    have r1 : rd [a, b, c] 1 = b := rfl
    rw [r1]
    by_cases h2 : b = 0
    · rw [if_pos h2]
      refine Ev.pos h2 (Ev.step (fun _ => rfl) ?_)
      simp only [cmp_Or_int.l0]
      rw [show wrap64 (1 + 1) = 2 by rw [wrap_in] <;> omega]
      refine Ev.pos (by simp) (Ev.pos (by decide) (Ev.pos (by simp) ?_))
      have r2 : rd [a, b, c] 2 = c := rfl
      rw [r2]
      by_cases h3 : c = 0
      · rw [h3]
        refine Ev.pos rfl (Ev.step (fun _ => rfl) ?_)
        simp only [cmp_Or_int.l0]
        rw [show wrap64 (2 + 1) = 3 by rw [wrap_in] <;> omega]
        exact Ev.neg (by simp) (Ev.now _)
      · exact Ev.neg h3 (Ev.now _)
    · rw [if_neg h2]
      exact Ev.neg h2 (Ev.now _)
  · rw [if_neg h]
    exact Ev.neg h (Ev.now _)
def okE (x : Ent) : Prop := x.f1.length ≤ 4398046511104
theorem orderE_ev (x y : Ent) (hx : okE x) : Ev (fun k => entry_Order.f k x.f0 x.f1 x.f2 y.f0 y.f1 y.f2) (ordE x y) := by
  unfold entry_Order.f
  rw [cI_f]
  refine Ev.one (Ev.bind (order_ev x.f1 y.f1 hx) ?_)
  unfold strings_Compare.f
  exact Ev.one (Ev.bind (or3_ev _ _ _) (Ev.now _))
theorem sameE_ev (x y : Ent) (hx : okE x) : Ev (fun k => entry_Same.f k x.f0 x.f1 x.f2 y.f0 y.f1 y.f2) (ordE x y == 0) := by
  unfold entry_Same.f
  exact Ev.bind (orderE_ev x y hx) (Ev.now _)
/-! ### what is drawn -/
theorem tag_own : ∀ k : Fin 256, (match archivistlaw13_Tag_tag.f ByteArray.empty ByteArray.empty true (k.val : Int) with | some p => nameP (by_ p.1) && decide (p.2.size ≤ 3) | none => false) = true := by decide +kernel
theorem tag_ownf (n v : ByteArray) (K : Int) (h0 : 0 ≤ K) (h1 : K < 256) : ∃ p : ByteArray × ByteArray, archivistlaw13_Tag_tag.f n v true K = some p ∧ nameP (by_ p.1) = true ∧ p.2.size ≤ 3 := by
  obtain ⟨m, rfl⟩ := Int.eq_ofNat_of_zero_le h0
  have h := tag_own ⟨m, by omega⟩
  have e : archivistlaw13_Tag_tag.f n v true (m : Int) = archivistlaw13_Tag_tag.f ByteArray.empty ByteArray.empty true (m : Int) := rfl
  rw [e]
  dsimp only at h
  split at h
  · rename_i p hp
    rw [Bool.and_eq_true, decide_eq_true_eq] at h
    exact ⟨p, hp, h.1, h.2⟩
  · cases h
theorem few2_loop (x : List Tg) (hg : ∀ y ∈ x, 0 ≤ y.f2 ∧ y.f2 < 256) : ∀ (d i : Nat) (p : List Lab), 2 - i = d → i ≤ 2 → p.length ≤ i → (∀ q ∈ p, q.f1.size ≤ 3) →
    ∃ L : List Lab, L.length ≤ 2 ∧ (∀ q ∈ L, q.f1.size ≤ 3) ∧ Ev (fun k => archivistlaw13_few2.l0 k x p (i : Int)) (ofP [] L) := by
  have fin : ∀ (p : List Lab), p.length ≤ 2 → Ev (fun k => (label_Of.f k p).bind fun t => some t) (ofP [] p) := fun p hp => Ev.bind (of_ev p (by omega)) (Ev.now _)
  intro d
  induction d with
  | zero =>
    intro i p hd hi hp hq
    refine ⟨p, by omega, hq, Ev.step (fun _ => rfl) ?_⟩
    simp only [archivistlaw13_few2.l0]
    by_cases h : (i : Int) < (x.length : Int)
    · exact Ev.pos h (Ev.neg (by omega) (fin p (by omega)))
    · exact Ev.neg h (fin p (by omega))
  | succ d ih =>
    intro i p hd hi hp hq
    by_cases h : i < x.length
    · have hy := hg x[i] (List.getElem_mem h)
      obtain ⟨t, ht, htn, htv⟩ := tag_ownf x[i].f0.f0 x[i].f0.f1 x[i].f2 hy.1 hy.2
      obtain ⟨L, h1, h2, h3⟩ := ih (i + 1) (p ++ [⟨t.1, t.2⟩]) (by omega) (by omega) (by rw [List.length_append]; simp; omega) (fun q hq2 => by
        rcases List.mem_append.1 hq2 with hq2 | hq2
        · exact hq q hq2
        · rw [List.mem_singleton] at hq2
          subst hq2
          exact htv)
      refine ⟨L, h1, h2, Ev.step (fun _ => rfl) ?_⟩
      simp only [archivistlaw13_few2.l0]
      rw [rdTag x i h, ht, w1 i (by omega)]
      exact Ev.pos (by omega) (Ev.pos (by omega) (Ev.pos (by omega) (Ev.one (Ev.pos (by omega) h3))))
    · refine ⟨p, by omega, hq, Ev.step (fun _ => rfl) ?_⟩
      simp only [archivistlaw13_few2.l0]
      exact Ev.neg (by omega) (fin p (by omega))
theorem few2_ev (x : List Tg) (hg : ∀ y ∈ x, 0 ≤ y.f2 ∧ y.f2 < 256) : ∃ L : List Lab, L.length ≤ 2 ∧ (∀ q ∈ L, q.f1.size ≤ 3) ∧ Ev (fun k => archivistlaw13_few2.f k x) (ofP [] L) :=
  few2_loop x hg 2 0 [] rfl (Nat.zero_le _) (Nat.le_refl _) (fun q hq => by simp at hq)
abbrev Itm := S29
def gI (x : Itm) : Prop := in64 x.f0.f0 ∧ x.f0.f1.length ≤ 4398046511104 ∧ (-128 ≤ x.f2 ∧ x.f2 ≤ 127) ∧ (∀ y ∈ x.f3, 0 ≤ y.f2 ∧ y.f2 < 256) ∧ 0 ≤ x.f4 ∧ x.f4 < 256
def lineQ : List ByteArray := [⟨#[97]⟩, ⟨#[98]⟩, ⟨#[110, 61, 55]⟩, ⟨#[108, 118, 108, 61, 98, 32, 110, 61, 51]⟩, ⟨#[120, 49]⟩, ⟨#[]⟩, ⟨#[100, 117, 114, 61, 53, 109]⟩, ⟨#[101, 114, 114, 111, 114, 58, 32, 97]⟩]
theorem lineQ_ok : ∀ m : Fin 8, (rdOf ByteArray.empty lineQ (m.val : Int)).size ≤ 9 := by decide +kernel
/-- an entry that is drawn of few parts -/
def smE (e : Ent) : Prop := in64 e.f0 ∧ (∃ L : List Lab, L.length ≤ 2 ∧ (∀ q ∈ L, q.f1.size ≤ 3) ∧ e.f1 = ofP [] L) ∧ e.f2.size ≤ 9
theorem itemOwn_ev (a : Int) (l : List Lab) (s : ByteArray) (t : Int) (x : List Tg) (n : Int) (ht : -128 ≤ t ∧ t ≤ 127) (hx : ∀ y ∈ x, 0 ≤ y.f2 ∧ y.f2 < 256) (h0 : 0 ≤ n) (h1 : n < 256) : ∃ e : Ent, smE e ∧ Ev (fun k => archivistlaw13_Item_item.f k a l s true t x n) (e.f0, e.f1, e.f2) := by
  obtain ⟨m, rfl⟩ := Int.eq_ofNat_of_zero_le h0
  obtain ⟨L, hL, hv, hf⟩ := few2_ev x hx
  have em : Int.tmod (m : Int) 8 = ((m % 8 : Nat) : Int) := rfl
  have hm := Nat.mod_lt m (show 8 > 0 by decide)
  have hln := lineQ_ok ⟨m % 8, hm⟩
  have hts : -11 ≤ Int.tmod t 12 ∧ Int.tmod t 12 ≤ 11 := by
    have h := Int.tmod_lt_of_pos t (show (0 : Int) < 12 by decide)
    have h2 : -12 < Int.tmod t 12 := Int.lt_tmod_of_pos t (by decide)
    omega
  refine ⟨⟨wrap64 (Int.tmod t 12), ofP [] L, rdOf ByteArray.empty lineQ ((m % 8 : Nat) : Int)⟩, ⟨in64_wrap _, ⟨L, hL, hv, rfl⟩, hln⟩, ?_⟩
  unfold archivistlaw13_Item_item.f
  have hlen : lineQ.length = 8 := rfl
  refine Ev.pos rfl (Ev.bind hf (Ev.one ?_))
  rw [em]
  exact Ev.pos (by omega) (Ev.pos (by show _ < ((lineQ.length : Nat) : Int); omega) (Ev.now _))
end Go.Proofs.YtjmbddgbojcpmaaDoor.B
end

section
set_option linter.unusedVariables false
set_option linter.unusedSimpArgs false
namespace Go.Proofs.YtjmbddgbojcpmaaDoor.B
open Go.RowKit Go.Proofs.YtjmbddgbojcpmaaDoor.X Go.Proofs.YtjmbddgbojcpmaaDoor.Pure Go.Proofs.YtjmbddgbojcpmaaDoorW.PrintWords Go.Proofs.YtjmbddgbojcpmaaDoorW.PrintLast

theorem ofP_all (Q : Lab → Prop) : ∀ (L l : List Lab), (∀ p ∈ l, Q p) → (∀ p ∈ L, Q p) → ∀ p ∈ ofP l L, Q p
  | [], l, hl, _ => hl
  | q :: L, l, hl, hL => by
    have hq := hL q (by simp)
    have hrec := ofP_all Q L (if nameP (by_ q.f0) = true then stepP l q else l) (fun p hp => by
      split at hp
      · rcases stepP_mem l q p hp with rfl | h
        · exact hq
        · exact hl p h
      · exact hl p hp) (fun p hp => hL p (by simp [hp]))
    exact hrec
theorem steps_rise : ∀ (l : List Lab), (∀ p ∈ l, okL p = true) → Rise l → stepsB none l = true := by
  have h : ∀ (l : List Lab) (q : Lab), (∀ p ∈ l, okL p = true) → Rise (q :: l) → stepsB (some q) l = true := by
    intro l
    induction l with
    | nil => intro q _ _; rfl
    | cons p l ih =>
      intro q h1 h2
      obtain ⟨h3, h4⟩ := rise_cons h2
      simp only [stepsB, Bool.and_eq_true, decide_eq_true_eq]
      exact ⟨h1 p (by simp), h3 p (by simp), ih p (fun x hx => h1 x (by simp [hx])) h4⟩
  intro l h1 h2
  cases l with
  | nil => rfl
  | cons p l =>
    simp only [stepsB, Bool.and_eq_true]
    exact ⟨h1 p (by simp), h l p (fun x hx => h1 x (by simp [hx])) h2⟩
theorem steps_okE : ∀ (l : List Lab) (q : Option Lab), stepsB q l = true → ∀ p ∈ l, okL p = true
  | [], _, _, _, h => by simp at h
  | x :: l, q, h, p, hp => by
    have h2 : okL x = true ∧ stepsB (some x) l = true := by
      cases q with
      | none => simpa [stepsB] using h
      | some y =>
        simp only [stepsB, Bool.and_eq_true] at h
        exact ⟨h.1, h.2.2⟩
    rcases List.mem_cons.1 hp with rfl | hp
    · exact h2.1
    · exact steps_okE l _ h2.2 p hp
theorem nameP_len {l : List UInt8} (h : nameP l = true) : l.length ≤ 32 := by
  cases l with
  | nil => simp
  | cons c l =>
    simp only [nameP, Bool.and_eq_true, decide_eq_true_eq] at h
    simp only [List.length_cons]
    omega
/-- what may be of an entry -/
def rightE (e : Ent) : Prop := rightL e.f1 = true ∧ e.f2.size ≤ 256
theorem rightL_is {l : List Lab} (h : rightL l = true) : l.length ≤ 16 ∧ ∀ p ∈ l, nameP (by_ p.f0) = true ∧ p.f0.size ≤ 32 ∧ p.f1.size ≤ 256 := by
  unfold rightL at h
  rw [Bool.and_eq_true, decide_eq_true_eq] at h
  refine ⟨h.2, fun p hp => ?_⟩
  have h2 := steps_okE l none h.1 p hp
  unfold okL at h2
  rw [Bool.and_eq_true, decide_eq_true_eq] at h2
  exact ⟨h2.1, by rw [← by_length]; exact nameP_len h2.1, h2.2⟩
def putE (e : Ent) : List UInt8 := Lib.itoa e.f0 ++ (textL e.f1 ++ putP (by_ e.f2))
theorem textL_len (c : Nat) (l : List Lab) (h : ∀ p ∈ l, (fieldP p).length ≤ c) : (textL l).length ≤ l.length * (c + 1) + 2 := by
  have := join_len c (l.map fieldP) (fun f hf => by
    obtain ⟨p, hp, rfl⟩ := List.mem_map.1 hf
    exact h p hp)
  rw [List.length_map] at this
  unfold textL
  rw [List.length_cons, List.length_append, List.length_singleton]
  omega
theorem putP_le (s : ByteArray) : (putP (by_ s)).length ≤ 4 * s.size + 2 := by
  have := (flat_len (by_ s)).2
  rw [by_length] at this
  rw [putP_len]
  omega
theorem putE_len {e : Ent} (h : in64 e.f0) (hr : rightE e) : (putE e).length ≤ 20 + (16 * 1060 + 2 + 1026) := by
  have h1 := itoa_len h
  obtain ⟨h2, h3⟩ := rightL_is hr.1
  have h4 := textL_len 1059 e.f1 (fun p hp => by have := field_len p; have := h3 p hp; omega)
  have h5 := putP_le e.f2
  have h6 := hr.2
  have h7 : e.f1.length * (1059 + 1) ≤ 16 * (1059 + 1) := Nat.mul_le_mul_right _ h2
  unfold putE
  rw [List.length_append, List.length_append]
  omega
theorem cut_brace (b : List UInt8) : ∀ a : List UInt8, 123 ∉ a → (cutP [[123]] (a ++ 123 :: b)).1 = a
  | [], _ => by
    rw [List.nil_append, cutP]
    have : [[123]].find? (sepC (123 :: b)) = some [123] := rfl
    rw [this]
  | c :: a, h => by
    have hc : c ≠ 123 := fun e => h (by rw [e]; simp)
    have : [[123]].find? (sepC (c :: (a ++ 123 :: b))) = none := by
      have hb : (c == 123) = false := beq_eq_false_iff_ne.2 hc
      simp [List.find?, sepC, pfxP, hb]
    rw [List.cons_append, cutP, this]
    show c :: (cutP [[123]] (a ++ 123 :: b)).1 = c :: a
    rw [cut_brace b a (fun hm => h (by simp [hm]))]
theorem itoa_no (v : Int) : (123 : UInt8) ∉ Lib.itoa v := fun h => by
  rcases itoa_byte v 123 h with h1 | h1
  · unfold digitB at h1
    simp at h1
  · cases h1
theorem rightE_ev (e : Ent) (hl : e.f1.length ≤ 1000000) : Ev (fun k => entry_Right.f k e.f0 e.f1 e.f2) (rightL e.f1 && decide (e.f2.size ≤ 256)) := by
  unfold entry_Right.f
  refine Ev.bind (right_ev e.f1 hl) ?_
  cases rightL e.f1 with
  | false => exact Ev.neg (by simp) (Ev.now _)
  | true =>
    refine Ev.pos rfl (Ev.ret ?_)
    rw [Bool.true_and, decide_eq_decide]
    omega
theorem ba_ofE (s : ByteArray) (l : List UInt8) (h : by_ s = l) : s = ⟨l.toArray⟩ := by_ext (by rw [h, by_mk])
theorem parseE_ev (e : Ent) (r : List UInt8) (s : ByteArray) (h : in64 e.f0) (hr : rightE e) (hs : s.size < 140737488355328) (he : by_ s = putE e ++ r) : Ev (fun k => entry_Parse.f k s) (e.f0, e.f1, e.f2, ((putE e).length : Int), true) := by
  obtain ⟨h16, hlab⟩ := rightL_is hr.1
  have hz := by_length s
  have hc := cut_ev s (by omega) [⟨#[123]⟩] (by decide)
  have e0 : [(⟨#[123]⟩ : ByteArray)].map by_ = [[123]] := rfl
  have e1 : by_ s = Lib.itoa e.f0 ++ (textL e.f1 ++ (putP (by_ e.f2) ++ r)) := by rw [he]; unfold putE; simp
  have e2 : textL e.f1 ++ (putP (by_ e.f2) ++ r) = 123 :: ((joinP [44] (e.f1.map fieldP) ++ [125]) ++ (putP (by_ e.f2) ++ r)) := by unfold textL; simp
  have e3 : (cutP [[123]] (by_ s)).1 = Lib.itoa e.f0 := by rw [e1, e2]; exact cut_brace _ _ (itoa_no _)
  rw [e0] at hc
  have t1 : (tri (cutP [[123]] (by_ s))).1 = ⟨(Lib.itoa e.f0).toArray⟩ := by unfold tri; rw [e3]
  have h1 := itoa_len h
  have z1 : (⟨(Lib.itoa e.f0).toArray⟩ : ByteArray).size = (Lib.itoa e.f0).length := by rw [← by_length, by_mk]
  have hlen : s.size = (Lib.itoa e.f0).length + ((textL e.f1).length + ((putP (by_ e.f2)).length + r.length)) := by rw [← hz, e1, List.length_append, List.length_append, List.length_append]
  unfold entry_Parse.f
  refine Ev.bind hc ?_
  rw [t1, parse_ev _ (by omega), by_mk, parseN_itoa h]
  refine Ev.one (Ev.pos rfl (Ev.pos (by omega) (Ev.pos (by omega) ?_)))
  have b1 : by_ (s.extract (⟨(Lib.itoa e.f0).toArray⟩ : ByteArray).size s.size) = textL e.f1 ++ (putP (by_ e.f2) ++ r) := by
    rw [by_extract, List.take_of_length_le (by omega), z1, e1, List.drop_left]
  obtain ⟨q, hq⟩ : ∃ q, s.extract (⟨(Lib.itoa e.f0).toArray⟩ : ByteArray).size s.size = q := ⟨_, rfl⟩
  rw [hq] at b1 ⊢
  have zq : q.size = (textL e.f1).length + ((putP (by_ e.f2)).length + r.length) := by rw [← by_length, b1, List.length_append, List.length_append]
  have hp := parse_set_ev q (by omega)
  rw [b1, parse_put e.f1 (by omega) (fun p hp => (hlab p hp).1), if_pos hr.1] at hp
  refine Ev.bind hp (Ev.pos rfl (Ev.pos (by simp only []; omega) (Ev.pos (by simp only []; omega) ?_)))
  have b2 : by_ (q.extract (((textL e.f1).length : Int)).toNat q.size) = putP (by_ e.f2) ++ r := by
    rw [by_extract, List.take_of_length_le (by rw [by_length]; exact Nat.le_refl _), Int.toNat_natCast, b1, List.drop_left]
  simp only []
  obtain ⟨q2, hq2⟩ : ∃ q2, q.extract (((textL e.f1).length : Int)).toNat q.size = q2 := ⟨_, rfl⟩
  rw [hq2] at b2 ⊢
  have zq2 : q2.size = (putP (by_ e.f2)).length + r.length := by rw [← by_length, b2, List.length_append]
  have hg := get_ev q2 (by omega)
  rw [b2, getP_put] at hg
  have e4 : (getI (some (by_ e.f2, (putP (by_ e.f2)).length))) = (e.f2, ((putP (by_ e.f2)).length : Int), true) := by
    show ((⟨(by_ e.f2).toArray⟩ : ByteArray), ((putP (by_ e.f2)).length : Int), true) = _
    rw [← ba_ofE e.f2 _ rfl]
  rw [e4] at hg
  have hrt := rightE_ev e (by omega)
  rw [hr.1, decide_eq_true hr.2] at hrt
  refine Ev.bind hg (Ev.pos rfl (Ev.bind hrt (Ev.pos rfl (Ev.ret ?_))))
  have hpl : (putE e).length = (Lib.itoa e.f0).length + ((textL e.f1).length + (putP (by_ e.f2)).length) := by unfold putE; rw [List.length_append, List.length_append]
  rw [hpl, z1]
  simp only [Prod.mk.injEq, and_true, true_and]
  rw [wrap_in (x := ((Lib.itoa e.f0).length : Int) + ((textL e.f1).length : Int)) (by omega) (by omega), wrap_in (by omega) (by omega)]
  omega
/-! ### what is drawn is right -/
theorem smE_right {e : Ent} (h : smE e) : rightE e := by
  obtain ⟨_, ⟨L, hL, hv, he⟩, hs⟩ := h
  have hlen := of_len L
  have hn : ∀ p ∈ ofP [] L, okL p = true := fun p hp => by
    have h1 := of_names L p hp
    have h2 := ofP_all (fun q => q.f1.size ≤ 256) L [] (by simp) (fun q hq => by have := hv q hq; omega) p hp
    unfold okL
    rw [h1, decide_eq_true h2]
    rfl
  refine ⟨?_, by omega⟩
  unfold rightL
  rw [he, steps_rise _ hn (of_rise L), decide_eq_true (by omega)]
  rfl
end Go.Proofs.YtjmbddgbojcpmaaDoor.B
end

section
set_option linter.unusedVariables false
set_option linter.unusedSimpArgs false
namespace Go.Proofs.YtjmbddgbojcpmaaDoor.B
open Go.RowKit Go.Proofs.YtjmbddgbojcpmaaDoor.X Go.Proofs.YtjmbddgbojcpmaaDoor.Pure Go.Proofs.YtjmbddgbojcpmaaDoorW.PrintWords Go.Proofs.YtjmbddgbojcpmaaDoorW.PrintLast

theorem parseL_in {x : List UInt8} (h : (parseL x).2.2 = true) : rightL (parseL x).1 = true ∧ 0 ≤ (parseL x).2.1 ∧ (parseL x).2.1 ≤ (x.length : Int) := by
  refine ⟨?_, ?_, (parse_more [] h).2⟩
  · unfold parseL at h ⊢
    by_cases hp : pfxP [123, 125] x = true
    · rw [if_pos hp]
      rfl
    · rw [if_neg hp] at h ⊢
      cases x with
      | nil => cases h
      | cons c r =>
        by_cases hc : c = 123
        · simp only [hc, if_true] at h ⊢
          cases hf : fieldsP 17 [] r with
          | none => rw [hf] at h; cases h
          | some ly =>
            obtain ⟨l, y⟩ := ly
            rw [hf] at h
            unfold endL at h ⊢
            by_cases hr : rightL l = true
            · simp only [if_pos hr]
              exact hr
            · simp only [if_neg hr] at h
              cases h
        · simp only [hc, if_false] at h
          cases h
  · unfold parseL at h ⊢
    by_cases hp : pfxP [123, 125] x = true
    · rw [if_pos hp]
      show (0 : Int) ≤ 2
      omega
    · rw [if_neg hp] at h ⊢
      cases x with
      | nil => cases h
      | cons c r =>
        by_cases hc : c = 123
        · simp only [hc, if_true] at h ⊢
          cases hf : fieldsP 17 [] r with
          | none => rw [hf] at h; cases h
          | some ly =>
            obtain ⟨l, y⟩ := ly
            have k2 := (fields_more 17 [] r [] l y hf).2
            unfold endL
            simp only []
            split
            · show (0 : Int) ≤ (((123 :: r : List UInt8).length : Nat) : Int) - (y.length : Int)
              simp only [List.length_cons]
              omega
            · show (0 : Int) ≤ 0
              omega
        · simp only [hc, if_false] at h
          cases h
theorem cut_le : ∀ t : List UInt8, (cutP [[123]] t).1.length ≤ t.length
  | [] => by simp [cutP]
  | c :: t => by
    have ih := cut_le t
    rw [cutP]
    cases h : [[123]].find? (sepC (c :: t)) with
    | some p => simp
    | none =>
      show (c :: (cutP [[123]] t).1).length ≤ _
      simp only [List.length_cons]
      omega
/-- the parser comes to an end with any text -/
theorem parseE_any (s : ByteArray) (hs : s.size < 140737488355328) : ∃ R, Ev (fun k => entry_Parse.f k s) R := by
  have hz := by_length s
  have hc := cut_ev s (by omega) [⟨#[123]⟩] (by decide)
  have e0 : [(⟨#[123]⟩ : ByteArray)].map by_ = [[123]] := rfl
  rw [e0] at hc
  obtain ⟨a, ha⟩ : ∃ a, (tri (cutP [[123]] (by_ s))).1 = a := ⟨_, rfl⟩
  have ha2 : a.size ≤ s.size := by
    rw [← ha, ← by_length]
    unfold tri
    rw [by_mk, ← hz]
    exact cut_le _
  unfold entry_Parse.f
  cases hp : (parseN (by_ a)).2 with
  | false =>
    refine ⟨(0, [], ⟨#[]⟩, 0, false), Ev.bind hc ?_⟩
    rw [ha, parse_ev _ (by omega)]
    exact Ev.one (Ev.neg (by rw [hp]; simp) (Ev.now _))
  | true =>
    obtain ⟨q, hq⟩ : ∃ q, s.extract a.size s.size = q := ⟨_, rfl⟩
    have hqz : q.size ≤ s.size := by rw [← hq, ByteArray.size_extract]; omega
    have hl := parse_set_ev q (by omega)
    cases hk : (parseL (by_ q)).2.2 with
    | false =>
      refine ⟨(0, [], ⟨#[]⟩, 0, false), Ev.bind hc ?_⟩
      rw [ha, parse_ev _ (by omega)]
      refine Ev.one (Ev.pos hp (Ev.pos (by omega) (Ev.pos (by omega) ?_)))
      rw [hq]
      exact Ev.bind hl (Ev.neg (by rw [hk]; simp) (Ev.now _))
    | true =>
      obtain ⟨h1, h2, h3⟩ := parseL_in hk
      rw [by_length] at h3
      obtain ⟨q2, hq2⟩ : ∃ q2, q.extract ((parseL (by_ q)).2.1).toNat q.size = q2 := ⟨_, rfl⟩
      have hqz2 : q2.size ≤ q.size := by rw [← hq2, ByteArray.size_extract]; omega
      have hg := get_ev q2 (by omega)
      cases hk2 : (getI (getP (by_ q2))).2.2 with
      | false =>
        refine ⟨(0, [], ⟨#[]⟩, 0, false), Ev.bind hc ?_⟩
        rw [ha, parse_ev _ (by omega)]
        refine Ev.one (Ev.pos hp (Ev.pos (by omega) (Ev.pos (by omega) ?_)))
        rw [hq]
        refine Ev.bind hl (Ev.pos hk (Ev.pos h2 (Ev.pos h3 ?_)))
        rw [hq2]
        exact Ev.bind hg (Ev.neg (by rw [hk2]; simp) (Ev.now _))
      | true =>
        have hr := rightE_ev ⟨(parseN (by_ a)).1, (parseL (by_ q)).1, (getI (getP (by_ q2))).1⟩ (by have := (rightL_is h1).1; simp only; omega)
        simp only at hr
        cases hk3 : (rightL (parseL (by_ q)).1 && decide ((getI (getP (by_ q2))).1.size ≤ 256)) with
        | false =>
          rw [hk3] at hr
          refine ⟨(0, [], ⟨#[]⟩, 0, false), Ev.bind hc ?_⟩
          rw [ha, parse_ev _ (by omega)]
          refine Ev.one (Ev.pos hp (Ev.pos (by omega) (Ev.pos (by omega) ?_)))
          rw [hq]
          refine Ev.bind hl (Ev.pos hk (Ev.pos h2 (Ev.pos h3 ?_)))
          rw [hq2]
          exact Ev.bind hg (Ev.pos hk2 (Ev.bind hr (Ev.neg (by simp) (Ev.now _))))
        | true =>
          rw [hk3] at hr
          refine ⟨((parseN (by_ a)).1, (parseL (by_ q)).1, (getI (getP (by_ q2))).1, wrap64 (wrap64 ((a.size : Int) + (parseL (by_ q)).2.1) + (getI (getP (by_ q2))).2.1), true), Ev.bind hc ?_⟩
          rw [ha, parse_ev _ (by omega)]
          refine Ev.one (Ev.pos hp (Ev.pos (by omega) (Ev.pos (by omega) ?_)))
          rw [hq]
          refine Ev.bind hl (Ev.pos hk (Ev.pos h2 (Ev.pos h3 ?_)))
          rw [hq2]
          exact Ev.bind hg (Ev.pos hk2 (Ev.bind hr (Ev.pos rfl (Ev.now _))))
/-! ### what was put and cut -/
theorem cut_none : ∀ a : List UInt8, 123 ∉ a → (cutP [[123]] a).1 = a
  | [], _ => by simp [cutP]
  | c :: a, h => by
    have hc : c ≠ 123 := fun e => h (by rw [e]; simp)
    have : [[123]].find? (sepC (c :: a)) = none := by
      have hb : (c == 123) = false := beq_eq_false_iff_ne.2 hc
      simp [List.find?, sepC, pfxP, hb]
    rw [cutP, this]
    show c :: (cutP [[123]] a).1 = c :: a
    rw [cut_none a (fun hm => h (by simp [hm]))]
theorem putP_cut (t : List UInt8) (m : Nat) (h : m < (putP t).length) : getP ((putP t).take m) = none := by
  cases h1 : getP ((putP t).take m) with
  | none => rfl
  | some q =>
    exfalso
    obtain ⟨x, n⟩ := q
    have hn : n ≤ m := by
      have h2 := getP_len' h1
      rw [List.length_take] at h2
      omega
    have h2 := getR_more ((putP t).drop m) h1
    rw [List.take_append_drop] at h2
    have h3 := getP_put t []
    rw [List.append_nil, h2] at h3
    have h4 := congrArg Prod.snd (Option.some.inj h3)
    simp only at h4
    omega
theorem parseE_cut (e : Ent) (h : in64 e.f0) (hr : rightE e) (s : ByteArray) (k : Nat) (hk : k < (putE e).length) (hs : by_ s = (putE e).take k) : Ev (fun k => entry_Parse.f k s) (0, [], ⟨#[]⟩, 0, false) := by
  obtain ⟨h16, hlab⟩ := rightL_is hr.1
  have hz := by_length s
  have hpl := putE_len h hr
  have hsz : s.size = k := by rw [← hz, hs, List.length_take]; omega
  have hpe : (putE e).length = (Lib.itoa e.f0).length + ((textL e.f1).length + (putP (by_ e.f2)).length) := by unfold putE; rw [List.length_append, List.length_append]
  have hc := cut_ev s (by omega) [⟨#[123]⟩] (by decide)
  have e0 : [(⟨#[123]⟩ : ByteArray)].map by_ = [[123]] := rfl
  rw [e0] at hc
  have hparse : ∀ a : ByteArray, a.size ≤ s.size → num_Parse.f a = some (parseN (by_ a)) := fun a ha => parse_ev _ (by omega)
  unfold entry_Parse.f
  by_cases hi : k ≤ (Lib.itoa e.f0).length
  · have hs2 : by_ s = (Lib.itoa e.f0).take k := by rw [hs]; unfold putE; exact List.take_append_of_le_length hi
    have hno : (123 : UInt8) ∉ by_ s := fun hm => itoa_no e.f0 (List.mem_of_mem_take (hs2 ▸ hm))
    have t1 : (tri (cutP [[123]] (by_ s))).1 = s := by
      unfold tri
      rw [cut_none _ hno]
      exact (ba_ofE s _ rfl).symm
    refine Ev.bind hc ?_
    rw [t1, hparse s (Nat.le_refl _)]
    refine Ev.one ?_
    by_cases hp : (parseN (by_ s)).2 = true
    · refine Ev.pos hp (Ev.pos (by omega) (Ev.pos (by omega) ?_))
      have hl := parse_set_ev (s.extract s.size s.size) (by rw [ByteArray.size_extract]; omega)
      rw [show by_ (s.extract s.size s.size) = [] by rw [by_extract, List.drop_of_length_le (by rw [List.length_take]; omega)]] at hl
      exact Ev.bind hl (Ev.neg (by decide) (Ev.now _))
    · exact Ev.neg hp (Ev.now _)
  · have e1 : by_ s = Lib.itoa e.f0 ++ (textL e.f1 ++ putP (by_ e.f2)).take (k - (Lib.itoa e.f0).length) := by
      rw [hs]
      unfold putE
      rw [List.take_append]
      congr 1
      exact List.take_of_length_le (by omega)
    obtain ⟨m, hm⟩ : ∃ m, k - (Lib.itoa e.f0).length = m := ⟨_, rfl⟩
    rw [hm] at e1
    have e2 : (textL e.f1 ++ putP (by_ e.f2)).take m = 123 :: ((joinP [44] (e.f1.map fieldP) ++ [125]) ++ putP (by_ e.f2)).take (m - 1) := by
      obtain ⟨j, hj⟩ : ∃ j, m = j + 1 := ⟨m - 1, by omega⟩
      subst hj
      unfold textL
      rfl
    have e3 : (cutP [[123]] (by_ s)).1 = Lib.itoa e.f0 := by rw [e1, e2]; exact cut_brace _ _ (itoa_no _)
    have t1 : (tri (cutP [[123]] (by_ s))).1 = ⟨(Lib.itoa e.f0).toArray⟩ := by unfold tri; rw [e3]
    have z1 : (⟨(Lib.itoa e.f0).toArray⟩ : ByteArray).size = (Lib.itoa e.f0).length := by rw [← by_length, by_mk]
    refine Ev.bind hc ?_
    rw [t1, hparse _ (by omega), by_mk, parseN_itoa h]
    refine Ev.one (Ev.pos rfl (Ev.pos (by omega) (Ev.pos (by omega) ?_)))
    have b1 : by_ (s.extract (⟨(Lib.itoa e.f0).toArray⟩ : ByteArray).size s.size) = (textL e.f1 ++ putP (by_ e.f2)).take m := by
      rw [by_extract, List.take_of_length_le (by omega), z1, e1, List.drop_left]
    obtain ⟨q, hq⟩ : ∃ q, s.extract (⟨(Lib.itoa e.f0).toArray⟩ : ByteArray).size s.size = q := ⟨_, rfl⟩
    rw [hq] at b1 ⊢
    have zq : q.size = m := by rw [← by_length, b1, List.length_take, List.length_append]; omega
    have hp := parse_set_ev q (by omega)
    by_cases hm2 : m < (textL e.f1).length
    · rw [b1, List.take_append_of_le_length (by omega)] at hp
      exact Ev.bind hp (Ev.neg (by rw [parse_short e.f1 (by omega) (fun p hp => (hlab p hp).1) m hm2]; simp) (Ev.now _))
    · have b2 : (textL e.f1 ++ putP (by_ e.f2)).take m = textL e.f1 ++ (putP (by_ e.f2)).take (m - (textL e.f1).length) := by
        rw [List.take_append]
        congr 1
        exact List.take_of_length_le (by omega)
      rw [b1, b2, parse_put e.f1 (by omega) (fun p hp => (hlab p hp).1), if_pos hr.1] at hp
      refine Ev.bind hp (Ev.pos rfl (Ev.pos (by simp only []; omega) (Ev.pos (by simp only []; omega) ?_)))
      simp only []
      obtain ⟨q2, hq2⟩ : ∃ q2, q.extract (((textL e.f1).length : Int)).toNat q.size = q2 := ⟨_, rfl⟩
      have b3 : by_ q2 = (putP (by_ e.f2)).take (m - (textL e.f1).length) := by
        rw [← hq2, by_extract, List.take_of_length_le (by rw [by_length]; exact Nat.le_refl _), Int.toNat_natCast, b1, b2, List.drop_left]
      rw [hq2]
      have zq2 : q2.size ≤ m := by rw [← hq2, ByteArray.size_extract]; omega
      have hg := get_ev q2 (by omega)
      rw [b3, putP_cut _ _ (by omega)] at hg
      exact Ev.bind hg (Ev.neg (by simp [getI]) (Ev.now _))
/-! ### what is put tells the entry -/
theorem putE_inj {a b : Ent} (ha : in64 a.f0) (hb : in64 b.f0) (ra : rightE a) (rb : rightE b) (h : putE a = putE b) : a = b := by
  obtain ⟨s, hs⟩ : ∃ s : ByteArray, s = ⟨(putE a).toArray⟩ := ⟨_, rfl⟩
  have bs : by_ s = putE a := by rw [hs, by_mk]
  have hz := by_length s
  have h1 := putE_len ha ra
  have k1 := parseE_ev a [] s ha ra (by rw [← hz, bs]; omega) (by rw [List.append_nil]; exact bs)
  have k2 := parseE_ev b [] s hb rb (by rw [← hz, bs]; omega) (by rw [List.append_nil, bs]; exact h)
  have k3 := Ev.fun_ k1 k2
  simp only [Prod.mk.injEq] at k3
  cases a
  cases b
  simp only at k3
  obtain ⟨e1, e2, e3, _⟩ := k3
  rw [e1, e2, e3]
/-! ### any entry is put -/
def lsum (l : List Lab) : Nat := (l.map fun p => (p.f0.size + 1) + (p.f1.size + 1)).sum
theorem lsum_cons (p : Lab) (l : List Lab) : lsum (p :: l) = (p.f0.size + 1) + (p.f1.size + 1) + lsum l := rfl
theorem joinP_sum : ∀ l : List Lab, (joinP [44] (l.map fieldP)).length ≤ 4 * lsum l
  | [] => Nat.zero_le _
  | [p] => by
    have := field_len p
    rw [List.map_cons, List.map_nil, joinP_one, lsum_cons]
    omega
  | p :: q :: l => by
    have ih := joinP_sum (q :: l)
    have h1 := field_len p
    rw [lsum_cons]
    rw [List.map_cons] at ih
    rw [List.map_cons, List.map_cons, joinP_cons, List.length_append, List.length_append, List.length_singleton]
    omega
theorem lab_count : ∀ l : List Lab, 2 * l.length ≤ lsum l
  | [] => Nat.zero_le _
  | p :: l => by
    have := lab_count l
    rw [lsum_cons, List.length_cons]
    omega
theorem sum_memE {α : Type} (f : α → Nat) : ∀ {l : List α} {y : α}, y ∈ l → f y ≤ (l.map f).sum
  | x :: l, y, h => by
    rw [List.map_cons, List.sum_cons]
    rcases List.mem_cons.1 h with rfl | h
    · omega
    · have := sum_memE f h
      omega
/-- an entry whose bulk is small enough -/
def bulk (e : Ent) : Prop := lsum e.f1 ≤ 1048576 ∧ e.f2.size ≤ 1048576
theorem bulk_len {e : Ent} (h : in64 e.f0) (hb : bulk e) : (putE e).length ≤ 10000000 := by
  have h1 := itoa_len h
  have h2 := joinP_sum e.f1
  have h3 := putP_le e.f2
  have h4 := hb.1
  have h5 := hb.2
  unfold putE textL
  simp only [List.length_append, List.length_cons, List.length_nil]
  omega
theorem putE_evB (e : Ent) (h : in64 e.f0) (hb : bulk e) : Ev (fun k => entry_Put.f k e.f0 e.f1 e.f2) ⟨(putE e).toArray⟩ := by
  have h2 := joinP_sum e.f1
  have h4 := hb.1
  have h6 := hb.2
  have h7 := lab_count e.f1
  have ht := text_set_ev e.f1 (by omega) (fun p hp => by
    have : (p.f0.size + 1) + (p.f1.size + 1) ≤ lsum e.f1 := sum_memE (fun p : Lab => (p.f0.size + 1) + (p.f1.size + 1)) hp
    omega) (by omega)
  have h9 := bulk_len h hb
  have e1 : joinP (by_ (⟨#[]⟩ : ByteArray)) ([(⟨(Lib.itoa e.f0).toArray⟩ : ByteArray), ⟨(textL e.f1).toArray⟩, ⟨(putP (by_ e.f2)).toArray⟩].map by_) = putE e := by
    have e0 : by_ (⟨#[]⟩ : ByteArray) = [] := rfl
    simp only [List.map_cons, List.map_nil, joinP_cons, joinP_one, by_mk, e0, List.append_nil]
    rfl
  unfold entry_Put.f
  rw [text_ev h]
  refine Ev.one (Ev.bind ht (Ev.bind (put_ev e.f2 (SmallN.of (by omega))) ?_))
  rw [join_f _ _ (by simp) (by rw [e1]; omega), e1]
  exact Ev.one (Ev.now _)
theorem smE_bulk {e : Ent} (h : smE e) : bulk e := by
  obtain ⟨h1, h2⟩ := rightL_is (smE_right h).1
  have h3 : lsum e.f1 ≤ e.f1.length * 290 := by
    have : ∀ l : List Lab, (∀ p ∈ l, p.f0.size ≤ 32 ∧ p.f1.size ≤ 256) → lsum l ≤ l.length * 290 := by
      intro l
      induction l with
      | nil => intro _; exact Nat.zero_le _
      | cons p l ih =>
        intro hl
        have h4 := ih (fun q hq => hl q (by simp [hq]))
        have h5 := hl p (by simp)
        rw [lsum_cons, List.length_cons]
        omega
    exact this _ (fun p hp => (h2 p hp).2)
  exact ⟨by omega, by have := (smE_right h).2; omega⟩
theorem item_evB (x : Itm) (h : gI x) (hb : bulk x.f0) : ∃ e : Ent, in64 e.f0 ∧ bulk e ∧ Ev (fun k => archivistlaw13_Item_item.f k x.f0.f0 x.f0.f1 x.f0.f2 x.f1 x.f2 x.f3 x.f4) (e.f0, e.f1, e.f2) := by
  obtain ⟨h1, h2, h3, h4, h5, h6⟩ := h
  cases hx : x.f1 with
  | true =>
    obtain ⟨e, he, hev⟩ := itemOwn_ev x.f0.f0 x.f0.f1 x.f0.f2 x.f2 x.f3 x.f4 h3 h4 h5 h6
    exact ⟨e, he.1, smE_bulk he, hev⟩
  | false =>
    refine ⟨x.f0, h1, hb, ?_⟩
    unfold archivistlaw13_Item_item.f
    exact Ev.neg (by simp) (Ev.now _)
end Go.Proofs.YtjmbddgbojcpmaaDoor.B
end
