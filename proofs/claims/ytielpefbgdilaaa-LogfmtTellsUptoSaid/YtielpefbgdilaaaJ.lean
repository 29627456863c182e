/-
  The plain texts of the seat Ytielpefbgdilaaa in one.
-/
import Derived.Test.YtielpefbgdilaaaX0
import Derived.Test.YtielpefbgdilaaaX3
import Derived.Test.YtielpefbgdilaaaX4
import Derived.Test.YtielpefbgdilaaaX6
import Derived.Test.YtielpefbgdilaaaX7
import Derived.Test.YtielpefbgdilaaaX8
import Derived.Test.YtielpefbgdilaaaX9
import Derived.Test.YtielpefbgdilaaaX10
import Derived.Lib.Join
import Derived.Test.YtielpefbgdilaaaX12
import Derived.Test.YtielpefbgdilaaaX13
import Derived.Test.YtielpefbgdilaaaX5
import Derived.Test.YtielpefbgdilaaaX11
section
set_option linter.unusedVariables false
set_option linter.unusedSimpArgs false
namespace Go.Proofs.Ytielpefbgdilaaa.B
open Go.RowKit Go.Proofs.Ytielpefbgdilaaa.X Go.Proofs.YtielpefbgdilaaaW.PrintWords Go.Proofs.YtielpefbgdilaaaW.PrintLast

/-! ### rounds -/
theorem Ev.pos {α : Type} {c : Prop} [Decidable c] {A B : Nat → Option α} {r : α} (h : c) (k : Ev A r) : Ev (fun n => if c then A n else B n) r := Ev.congr (fun n => if_pos h) k
theorem Ev.neg {α : Type} {c : Prop} [Decidable c] {A B : Nat → Option α} {r : α} (h : ¬ c) (k : Ev B r) : Ev (fun n => if c then A n else B n) r := Ev.congr (fun n => if_neg h) k
theorem Ev.one {α β : Type} {x : α} {f : Nat → α → Option β} {r : β} (k : Ev (fun n => f n x) r) : Ev (fun n => (some x).bind (f n)) r := k
theorem Ev.ret {α : Type} {x r : α} (h : x = r) : Ev (fun _ => some x) r := h ▸ Ev.now x
/-! ### texts as lists of bytes -/
/-- a text's bytes -/
def by_ (s : ByteArray) : List UInt8 := s.data.toList
theorem toList_by (s : ByteArray) : s.toList = by_ s := x_toList s
theorem by_length (s : ByteArray) : (by_ s).length = s.size := data_length s
theorem by_ext {s t : ByteArray} (h : by_ s = by_ t) : s = t := by
  cases s
  cases t
  simp only [by_] at h
  exact congrArg ByteArray.mk (Array.toList_inj.mp h)
theorem by_mk (l : List UInt8) : by_ ⟨l.toArray⟩ = l := by simp [by_]
theorem by_lit (a : Array UInt8) : by_ ⟨a⟩ = a.toList := rfl
theorem by_append (s t : ByteArray) : by_ (s ++ t) = by_ s ++ by_ t := by simp [by_, ByteArray.data_append]
theorem by_extract (s : ByteArray) (i j : Nat) : by_ (s.extract i j) = ((by_ s).take j).drop i := by
  simp [by_, ByteArray.data_extract, Array.toList_extract, List.extract, List.drop_take]
theorem bt_by (s : ByteArray) (i : Nat) (h : i < (by_ s).length) : bt s i = (((by_ s)[i]).toNat : Int) := by
  have h2 : i < s.size := by rw [by_length] at h; exact h
  unfold bt
  rw [dif_pos (by simpa using h2)]
  rfl
theorem wrap_in {x : Int} (h0 : -9223372036854775808 ≤ x) (h1 : x ≤ 9223372036854775807) : wrap64 x = x := by unfold wrap64; omega
theorem w1 (i : Nat) (h : i < 9223372036854775807) : wrap64 ((i : Int) + 1) = ((i + 1 : Nat) : Int) := by rw [wrap_in] <;> omega
end Go.Proofs.Ytielpefbgdilaaa.B
end

section
set_option linter.unusedVariables false
set_option linter.unusedSimpArgs false
namespace Go.Proofs.Ytielpefbgdilaaa.B
open Go.RowKit Go.Proofs.Ytielpefbgdilaaa.X Go.Proofs.YtielpefbgdilaaaW.PrintWords Go.Proofs.YtielpefbgdilaaaW.PrintLast

/-! ### what stands behind an escape -/
def hexd : List UInt8 := [48, 49, 50, 51, 52, 53, 54, 55, 56, 57, 97, 98, 99, 100, 101, 102]
/-- the place of a byte among some; -1: it is none -/
def hexv (c : UInt8) : Int := Lib.indexByte hexd c
theorem hexv_range (c : UInt8) : -1 ≤ hexv c ∧ hexv c ≤ 15 := by
  have h : ∀ n : Fin 256, -1 ≤ hexv (UInt8.ofNat n.val) ∧ hexv (UInt8.ofNat n.val) ≤ 15 := by decide +kernel
  have := h ⟨c.toNat, c.toNat_lt⟩
  simpa using this
theorem or_hex (h g : Int) (h0 : 0 ≤ h) (h1 : h ≤ 15) (g0 : 0 ≤ g) (g1 : g ≤ 15) : (Go.bits .or .i64 (wrap64 (h * 16)) g) % 256 = h * 16 + g := by
  obtain ⟨a, rfl⟩ := Int.eq_ofNat_of_zero_le h0
  obtain ⟨b, rfl⟩ := Int.eq_ofNat_of_zero_le g0
  have k : ∀ x y : Fin 16, (Go.bits .or .i64 (wrap64 (((x.val : Nat) : Int) * 16)) ((y.val : Nat) : Int)) % 256 = ((x.val : Nat) : Int) * 16 + ((y.val : Nat) : Int) := by decide +kernel
  exact k ⟨a, by omega⟩ ⟨b, by omega⟩
/-- the byte that is told by an escape, and how many bytes that has -/
def escP : List UInt8 → Option (UInt8 × Nat)
  | [] => none
  | c :: l =>
    if c.toNat = 34 then some (c, 1) else if c.toNat = 92 then some (c, 1) else if c.toNat = 110 then some (10, 1) else if c.toNat = 116 then some (9, 1)
    else match l with
      | h :: g :: _ =>
        if c.toNat = 120 ∧ 0 ≤ hexv h ∧ 0 ≤ hexv g ∧ ¬ (32 ≤ hexv h * 16 + hexv g ∧ hexv h * 16 + hexv g ≤ 126) ∧ hexv h * 16 + hexv g ≠ 10 ∧ hexv h * 16 + hexv g ≠ 9 then some (UInt8.ofNat (hexv h * 16 + hexv g).toNat, 3)
        else none
      | _ => none
/-- as the program tells it -/
def escI (o : Option (UInt8 × Nat)) : Int × Int := match o with
  | some (b, n) => ((b.toNat : Int), (n : Int))
  | none => (0, 0)
theorem idx_hex (s : ByteArray) (i : Nat) (c : UInt8) (h : (by_ s)[i]? = some c) : strings_IndexByte.f (⟨#[48, 49, 50, 51, 52, 53, 54, 55, 56, 57, 97, 98, 99, 100, 101, 102]⟩ : ByteArray) (bt s i) = some (hexv c) := by
  obtain ⟨hl, e⟩ := List.getElem?_eq_some_iff.1 h
  have : bt s i = (c.toNat : Int) := by rw [bt_by s i hl, e]
  rw [this]
  unfold strings_IndexByte.f hexv hexd
  simp
theorem bt_at_ (s : ByteArray) (i : Nat) (c : UInt8) (h : (by_ s)[i]? = some c) : bt s i = (c.toNat : Int) := by
  obtain ⟨hl, e⟩ := List.getElem?_eq_some_iff.1 h
  rw [bt_by s i hl, e]
theorem escaped_ev (s : ByteArray) : Ev (fun k => quote_escaped.f k s) (escI (escP (by_ s))) := by
  have hz := by_length s
  unfold quote_escaped.f
  rw [toList_by]
  cases hs : by_ s with
  | nil => exact Ev.pos rfl (Ev.now _)
  | cons c l =>
    rw [hs] at hz
    simp only [List.length_cons] at hz
    have h0 : bt s 0 = (c.toNat : Int) := bt_at_ s 0 c (by rw [hs]; rfl)
    have hc := c.toNat_lt
    refine Ev.neg (by simp) (Ev.pos (by omega) ?_)
    rw [h0]
    have hj : ∀ b : Bool, b = (decide (c.toNat = 34 ∨ c.toNat = 92)) → Ev (fun k => quote_escaped.j0 k s (c.toNat : Int) b) (escI (escP (c :: l))) := by
      intro b hb
      refine Ev.step (fun _ => rfl) ?_
      simp only [quote_escaped.j0, escP]
      by_cases c1 : c.toNat = 34
      · rw [if_pos c1]
        refine Ev.pos (by rw [hb]; simp [c1]) (Ev.pos (by omega) ?_)
        rw [h0]
        exact Ev.now _
      rw [if_neg c1]
      by_cases c2 : c.toNat = 92
      · rw [if_pos c2]
        refine Ev.pos (by rw [hb]; simp [c2]) (Ev.pos (by omega) ?_)
        rw [h0]
        exact Ev.now _
      rw [if_neg c2]
      refine Ev.neg (by rw [hb]; simp [c1, c2]) ?_
      by_cases c3 : c.toNat = 110
      · rw [if_pos c3]
        exact Ev.pos (by omega) (Ev.now _)
      rw [if_neg c3]
      refine Ev.neg (by omega) ?_
      by_cases c4 : c.toNat = 116
      · rw [if_pos c4]
        exact Ev.pos (by omega) (Ev.now _)
      rw [if_neg c4]
      refine Ev.neg (by omega) ?_
      match l, hs, hz with
      | [], hs, hz => exact Ev.pos (by simp at hz; omega) (Ev.step (f := fun _ => some (0, 0)) (fun _ => by simp [quote_escaped.j1]) (Ev.now _))
      | [_], hs, hz => exact Ev.pos (by simp at hz; omega) (Ev.step (f := fun _ => some (0, 0)) (fun _ => by simp [quote_escaped.j1]) (Ev.now _))
      | h :: g :: r, hs, hz =>
        simp only [List.length_cons] at hz
        refine Ev.neg (by omega) (Ev.pos (by omega) ?_)
        rw [h0]
        refine Ev.step (fun _ => rfl) ?_
        simp only [quote_escaped.j1]
        by_cases c5 : c.toNat = 120
        · refine Ev.neg (by simp [c5]) (Ev.pos (by omega) ?_)
          have i1 := idx_hex s 1 h (by rw [hs]; rfl)
          have i2 := idx_hex s 2 g (by rw [hs]; rfl)
          refine Ev.congr (fun k => by rw [show (1 : Int) = ((1 : Nat) : Int) from rfl, i1, Option.bind_some]) (Ev.pos (by omega) (Ev.congr (fun k => by rw [show (2 : Int) = ((2 : Nat) : Int) from rfl, i2, Option.bind_some]) ?_))
          obtain ⟨hh0, hh1⟩ := hexv_range h
          obtain ⟨hg0, hg1⟩ := hexv_range g
          by_cases hcond : c.toNat = 120 ∧ 0 ≤ hexv h ∧ 0 ≤ hexv g ∧ ¬ (32 ≤ hexv h * 16 + hexv g ∧ hexv h * 16 + hexv g ≤ 126) ∧ hexv h * 16 + hexv g ≠ 10 ∧ hexv h * 16 + hexv g ≠ 9
          · rw [if_pos hcond]
            obtain ⟨_, n1, n2, n3, n4, n5⟩ := hcond
            refine Ev.neg (by omega) (Ev.neg (by omega) ?_)
            rw [or_hex _ _ (by omega) hh1 (by omega) hg1]
            have hw : (((UInt8.ofNat (hexv h * 16 + hexv g).toNat).toNat : Nat) : Int) = hexv h * 16 + hexv g := by
              rw [UInt8.toNat_ofNat']
              omega
            have hr : escI (some (UInt8.ofNat (hexv h * 16 + hexv g).toNat, 3)) = (hexv h * 16 + hexv g, 3) := by
              simp only [escI, hw]
              rfl
            rw [hr]
            by_cases n6 : hexv h * 16 + hexv g ≥ 32
            · exact Ev.pos n6 (Ev.neg (by omega) (Ev.neg n4 (Ev.neg n5 (Ev.now _))))
            · exact Ev.neg n6 (Ev.neg n4 (Ev.neg n5 (Ev.now _)))
          · rw [if_neg hcond]
            by_cases n1 : hexv h < 0
            · exact Ev.pos n1 (Ev.now _)
            refine Ev.neg n1 ?_
            by_cases n2 : hexv g < 0
            · exact Ev.pos n2 (Ev.now _)
            refine Ev.neg n2 ?_
            rw [or_hex _ _ (by omega) hh1 (by omega) hg1]
            by_cases n6 : hexv h * 16 + hexv g ≥ 32
            · refine Ev.pos n6 ?_
              by_cases n7 : hexv h * 16 + hexv g ≤ 126
              · exact Ev.pos n7 (Ev.now _)
              · exact absurd ⟨c5, by omega, by omega, by omega, by omega, by omega⟩ hcond
            · refine Ev.neg n6 ?_
              by_cases n7 : hexv h * 16 + hexv g = 10
              · exact Ev.pos n7 (Ev.now _)
              refine Ev.neg n7 ?_
              by_cases n8 : hexv h * 16 + hexv g = 9
              · exact Ev.pos n8 (Ev.now _)
              · exact absurd ⟨c5, by omega, by omega, by omega, n7, n8⟩ hcond
        · refine Ev.pos (by simp; omega) ?_
          rw [if_neg (by intro h; exact c5 h.1)]
          exact Ev.now _
    by_cases c1 : (c.toNat : Int) = 34
    · exact Ev.pos c1 (hj _ (by rw [Bool.eq_iff_iff]; simp; omega))
    · exact Ev.neg c1 (hj _ (by rw [Bool.eq_iff_iff]; simp; omega))
/-! ### a text in quotes -/
/-- the byte that stands at the begin of what is in quotes, and how many bytes tell it -/
def decP : List UInt8 → Option (UInt8 × Nat)
  | [] => none
  | c :: l => if c.toNat = 92 then (escP l).map fun r => (r.1, r.2 + 1) else if c.toNat < 32 ∨ 126 < c.toNat then none else some (c, 1)
/-- what stands up to the quote that ends it, and how many bytes that has, the quote with it -/
def unqP : List UInt8 → Option (List UInt8 × Nat)
  | [] => none
  | c :: l => if c.toNat = 34 then some ([], 1) else match decP (c :: l) with
    | none => none
    | some (b, n) => (unqP (l.drop (n - 1))).map fun r => (b :: r.1, r.2 + n)
termination_by l => l.length
decreasing_by simp; omega
def getP : List UInt8 → Option (List UInt8 × Nat)
  | [] => none
  | c :: l => if c.toNat = 34 then (unqP l).map fun r => (r.1, r.2 + 1) else none
/-- as the program tells it -/
def getI (o : Option (List UInt8 × Nat)) : ByteArray × Int × Bool := match o with
  | some (t, n) => (⟨t.toArray⟩, (n : Int), true)
  | none => (⟨#[]⟩, 0, false)
def up_ (l : List UInt8) : List Int := l.map fun b => (b.toNat : Int)
theorem nums_up (l : List UInt8) : strOfNums (up_ l) = ⟨l.toArray⟩ := by
  unfold strOfNums up_
  rw [List.map_map]
  congr 2
  conv => rhs; rw [← List.map_id l]
  apply List.map_congr_left
  intro b _
  simp
theorem escP_len {l : List UInt8} {b : UInt8} {n : Nat} (h : escP l = some (b, n)) : 1 ≤ n ∧ n ≤ l.length := by
  match l, h with
  | [], h => simp [escP] at h
  | [c], h =>
    simp only [escP] at h
    repeat' split at h
    all_goals simp at h
    all_goals (obtain ⟨_, rfl⟩ := h; simp)
  | [c, d], h =>
    simp only [escP] at h
    repeat' split at h
    all_goals simp at h
    all_goals (obtain ⟨_, rfl⟩ := h; simp)
  | c :: d :: e :: r, h =>
    simp only [escP] at h
    repeat' split at h
    all_goals simp at h
    all_goals (obtain ⟨_, rfl⟩ := h; simp)
theorem decP_len {l : List UInt8} {b : UInt8} {n : Nat} (h : decP l = some (b, n)) : 1 ≤ n ∧ n ≤ l.length := by
  match l, h with
  | [], h => simp [decP] at h
  | c :: l, h =>
    simp only [decP] at h
    split at h
    · obtain ⟨⟨b2, n2⟩, h2, h3⟩ := Option.map_eq_some_iff.1 h
      have := escP_len h2
      simp at h3
      obtain ⟨_, rfl⟩ := h3
      simp
      omega
    · split at h
      · simp at h
      · simp at h
        obtain ⟨_, rfl⟩ := h
        simp
theorem unqP_len : ∀ (d : Nat) (l : List UInt8) (t : List UInt8) (n : Nat), l.length = d → unqP l = some (t, n) → 1 ≤ n ∧ n ≤ l.length := by
  intro d
  induction d using Nat.strongRecOn with
  | _ d ih =>
    intro l t n hd h
    match l, hd, h with
    | [], _, h => simp [unqP] at h
    | c :: l, hd, h =>
      rw [unqP] at h
      split at h
      · simp at h
        obtain ⟨_, rfl⟩ := h
        simp
      · split at h
        · simp at h
        · rename_i b m hdec
          obtain ⟨⟨t2, n2⟩, h2, h3⟩ := Option.map_eq_some_iff.1 h
          have h4 := decP_len hdec
          simp only [List.length_cons] at hd h4
          have h5 := ih (l.drop (m - 1)).length (by simp; omega) _ t2 n2 rfl h2
          simp at h3 h5
          obtain ⟨_, rfl⟩ := h3
          simp
          omega
theorem w_succ (i : Nat) (h : i < 140737488355328) : wrap64 ((i : Int) + 1) = ((i + 1 : Nat) : Int) := by rw [wrap_in (by omega) (by omega)]; omega
theorem w_skip (i n : Nat) (h : i + n < 140737488355328) : wrap64 (wrap64 ((i : Int) + (n : Int)) + 1) = ((i + n + 1 : Nat) : Int) := by rw [wrap_in (x := (i : Int) + n) (by omega) (by omega), wrap_in (by omega) (by omega)]; omega
set_option maxHeartbeats 1000000 in
theorem get_loop (s : ByteArray) (hs : s.size < 140737488355328) : ∀ (d i : Nat) (acc : List UInt8), s.size - i = d → i ≤ s.size → acc.length ≤ i →
    Ev (fun k => quote_Get.l0 k s (up_ acc) (i : Int)) (getI ((unqP ((by_ s).drop i)).map fun r => (acc ++ r.1, r.2 + i))) := by
  intro d
  induction d using Nat.strongRecOn with
  | _ d ih =>
    intro i acc hd hi ha
    have hz := by_length s
    refine Ev.step (fun _ => rfl) ?_
    simp only [quote_Get.l0]
    by_cases h1 : i < s.size
    · have hl : i < (by_ s).length := by omega
      rw [List.drop_eq_getElem_cons hl]
      have hb := bt_by s i hl
      obtain ⟨c, hc⟩ : ∃ c, (by_ s)[i] = c := ⟨_, rfl⟩
      rw [hc] at hb ⊢
      have hcl := c.toNat_lt
      refine Ev.pos (by omega) (Ev.pos (by omega) ?_)
      rw [hb, unqP]
      have hi2 : i < 140737488355328 := by omega
      by_cases c1 : c.toNat = 34
      · rw [if_pos c1]
        refine Ev.pos (by omega) (Ev.ret ?_)
        simp only [Option.map_some, getI, nums_up, w_succ i hi2, List.append_nil]
        congr 2
        omega
      rw [if_neg c1]
      refine Ev.neg (by omega) ?_
      by_cases c2 : c.toNat = 92
      · refine Ev.pos (by omega) ?_
        rw [w_succ i hi2]
        refine Ev.pos (by omega) (Ev.pos (by omega) ?_)
        have he : by_ (s.extract ((i + 1 : Nat) : Int).toNat s.size) = (by_ s).drop (i + 1) := by
          rw [by_extract, Int.toNat_natCast, List.take_of_length_le (by omega)]
        have hev := escaped_ev (s.extract ((i + 1 : Nat) : Int).toNat s.size)
        rw [he] at hev
        refine Ev.bind hev ?_
        simp only [decP]
        rw [if_pos c2]
        cases hesc : escP ((by_ s).drop (i + 1)) with
        | none => exact Ev.pos rfl (Ev.now _)
        | some r =>
          obtain ⟨b, n⟩ := r
          have hn := escP_len hesc
          rw [List.length_drop] at hn
          have hlt : s.size - (i + n + 1) < d := by clear hs hi2 hb; omega
          have hle : i + n + 1 ≤ s.size := by clear hs hi2 hb; omega
          have hal : (acc ++ [b]).length ≤ i + n + 1 := by clear hs hi2 hb; simp; omega
          have hrec := ih (s.size - (i + n + 1)) hlt (i + n + 1) (acc ++ [b]) rfl hle hal
          have hlen : (up_ acc).length < 140737488355328 := by simp only [up_, List.length_map]; omega
          refine Ev.neg (by simp only [escI]; omega) ?_
          refine Ev.pos hlen ?_
          simp only [escI, Option.map_some]
          have e1 : up_ acc ++ [((b.toNat : Nat) : Int)] = up_ (acc ++ [b]) := by simp [up_]
          rw [w_skip i n (by omega), e1]
          have e2 : (List.drop (i + 1) (by_ s)).drop (n + 1 - 1) = (by_ s).drop (i + n + 1) := by rw [List.drop_drop]; congr 1; omega
          rw [e2]
          have e3 : (Option.map (fun r => (acc ++ r.1, r.2 + i)) (Option.map (fun r => (b :: r.1, r.2 + (n + 1))) (unqP ((by_ s).drop (i + n + 1))))) = (unqP ((by_ s).drop (i + n + 1))).map fun r => ((acc ++ [b]) ++ r.1, r.2 + (i + n + 1)) := by
            rw [Option.map_map]
            congr 1
            funext r
            simp
            omega
          rw [e3]
          exact hrec
      refine Ev.neg (by omega) ?_
      simp only [decP]
      rw [if_neg c2]
      by_cases c3 : c.toNat < 32
      · rw [if_pos (.inl c3)]
        exact Ev.pos (by omega) (Ev.now _)
      refine Ev.neg (by omega) ?_
      by_cases c4 : 126 < c.toNat
      · rw [if_pos (.inr c4)]
        exact Ev.pos (by omega) (Ev.now _)
      have hlen : (up_ acc).length < 140737488355328 := by simp only [up_, List.length_map]; omega
      refine Ev.neg (by omega) ?_
      refine Ev.pos hlen ?_
      rw [if_neg (by omega), w_succ i hi2]
      have e1 : up_ acc ++ [((c.toNat : Nat) : Int)] = up_ (acc ++ [c]) := by simp [up_]
      rw [e1]
      have hrec := ih (s.size - (i + 1)) (by omega) (i + 1) (acc ++ [c]) rfl (by omega) (by simp; omega)
      have e3 : (Option.map (fun r => (acc ++ r.1, r.2 + i)) (Option.map (fun r => (c :: r.1, r.2 + 1)) (unqP (List.drop (1 - 1) ((by_ s).drop (i + 1)))))) = (unqP ((by_ s).drop (i + 1))).map fun r => ((acc ++ [c]) ++ r.1, r.2 + (i + 1)) := by
        rw [Option.map_map, Nat.sub_self, List.drop_zero]
        congr 1
        funext r
        simp
        omega
      simp only
      rw [e3]
      exact hrec
    · rw [List.drop_of_length_le (by omega), unqP]
      exact Ev.neg (by omega) (Ev.now _)
theorem get_ev (s : ByteArray) (hs : s.size < 140737488355328) : Ev (fun k => quote_Get.f k s) (getI (getP (by_ s))) := by
  have hz := by_length s
  unfold quote_Get.f
  rw [toList_by]
  cases hb : by_ s with
  | nil => exact Ev.pos rfl (Ev.step (f := fun _ => some (⟨#[]⟩, 0, false)) (fun _ => by simp [quote_Get.j0]) (Ev.now _))
  | cons c l =>
    rw [hb] at hz
    simp only [List.length_cons] at hz
    have h0 : bt s 0 = (c.toNat : Int) := bt_at_ s 0 c (by rw [hb]; rfl)
    refine Ev.neg (by simp) (Ev.pos (by omega) (Ev.step (fun _ => rfl) ?_))
    simp only [quote_Get.j0, getP, h0]
    by_cases c1 : c.toNat = 34
    · rw [if_pos c1]
      refine Ev.neg (by simp; omega) ?_
      have h := get_loop s hs (s.size - 1) 1 [] rfl (by omega) (by simp)
      rw [hb] at h
      have e0 : (Option.map (fun r => (([] : List UInt8) ++ r.1, r.2 + 1)) (unqP (List.drop 1 (c :: l)))) = (unqP l).map fun r => (r.1, r.2 + 1) := by simp
      rw [e0] at h
      exact h
    · rw [if_neg c1]
      exact Ev.pos (by simp; omega) (Ev.now _)
end Go.Proofs.Ytielpefbgdilaaa.B
end

section
set_option linter.unusedVariables false
set_option linter.unusedSimpArgs false
namespace Go.Proofs.Ytielpefbgdilaaa.B
open Go.RowKit Go.Proofs.Ytielpefbgdilaaa.X Go.Proofs.YtielpefbgdilaaaW.PrintWords Go.Proofs.YtielpefbgdilaaaW.PrintLast

/-! ### names -/
def nameC (c : UInt8) : Bool := c.toNat == 95 || (48 ≤ c.toNat && c.toNat ≤ 57) || (65 ≤ c.toNat && c.toNat ≤ 90) || (97 ≤ c.toNat && c.toNat ≤ 122)
def nameP : List UInt8 → Bool
  | [] => false
  | c :: l => decide (l.length < 32) && !(48 ≤ c.toNat && c.toNat ≤ 57) && (c :: l).all nameC
theorem nameC_no (c : UInt8) : nameC c = false ↔ c.toNat ≠ 95 ∧ (c.toNat < 48 ∨ 57 < c.toNat) ∧ (c.toNat < 65 ∨ Go.bits .or .u8 (c.toNat : Int) 32 < 97 ∨ 122 < Go.bits .or .u8 (c.toNat : Int) 32) := by
  have h : ∀ n : Fin 256, nameC (UInt8.ofNat n.val) = false ↔ (UInt8.ofNat n.val).toNat ≠ 95 ∧ ((UInt8.ofNat n.val).toNat < 48 ∨ 57 < (UInt8.ofNat n.val).toNat) ∧ ((UInt8.ofNat n.val).toNat < 65 ∨ Go.bits .or .u8 ((UInt8.ofNat n.val).toNat : Int) 32 < 97 ∨ 122 < Go.bits .or .u8 ((UInt8.ofNat n.val).toNat : Int) 32) := by decide +kernel
  have := h ⟨c.toNat, c.toNat_lt⟩
  simpa using this
theorem name_loop (s : ByteArray) (hz : s.size ≤ 32) : ∀ (d i : Nat), s.size - i = d → i ≤ s.size →
    Ev (fun k => label_Name.l0 k (bytesOf s) ((bytesOf s).length : Int) (i : Int)) (((by_ s).drop i).all nameC)
  | 0, i, hd, hi => by
    have hb := by_length s
    have hl := bytesOf_length s
    refine Ev.step (fun _ => rfl) ?_
    simp only [label_Name.l0]
    rw [List.drop_of_length_le (by omega)]
    exact Ev.neg (by omega) (Ev.now _)
  | d + 1, i, hd, hi => by
    have hb := by_length s
    have hl := bytesOf_length s
    have hlt : i < (by_ s).length := by omega
    refine Ev.step (fun _ => rfl) ?_
    simp only [label_Name.l0]
    have ih := name_loop s hz d (i + 1) (by omega) (by omega)
    have hc : rd (bytesOf s) (i : Int) = (((by_ s)[i]).toNat : Int) := by rw [rd_bytesOf, bt_by s i hlt]
    rw [List.drop_eq_getElem_cons hlt, List.all_cons, w_succ i (by omega), hc]
    obtain ⟨c, hcc⟩ : ∃ c, (by_ s)[i] = c := ⟨_, rfl⟩
    rw [hcc]
    refine Ev.pos (by omega) (Ev.pos (by omega) (Ev.pos (by omega) ?_))
    by_cases hn : nameC c = true
    · rw [hn, Bool.true_and]
      have h2 : ¬ (c.toNat ≠ 95 ∧ (c.toNat < 48 ∨ 57 < c.toNat) ∧ (c.toNat < 65 ∨ Go.bits .or .u8 (c.toNat : Int) 32 < 97 ∨ 122 < Go.bits .or .u8 (c.toNat : Int) 32)) := fun h => by rw [(nameC_no c).mpr h] at hn; cases hn
      by_cases c1 : (c.toNat : Int) = 95
      · exact Ev.pos c1 ih
      refine Ev.neg c1 ?_
      by_cases c2 : (c.toNat : Int) < 48
      · refine Ev.pos c2 (Ev.neg (by omega) (Ev.neg (by omega) (Ev.neg (by omega) ih)))
      refine Ev.neg c2 ?_
      by_cases c3 : (c.toNat : Int) > 57
      · refine Ev.pos c3 (Ev.neg (by omega) (Ev.neg (by omega) (Ev.neg (by omega) ih)))
      · exact Ev.neg c3 ih
    · rw [Bool.not_eq_true] at hn
      obtain ⟨h1, h2, h3⟩ := (nameC_no c).mp hn
      rw [hn, Bool.false_and]
      refine Ev.neg (by omega) ?_
      by_cases c2 : (c.toNat : Int) < 48
      · refine Ev.pos c2 ?_
        by_cases c4 : (c.toNat : Int) < 65
        · exact Ev.pos c4 (Ev.now _)
        · omega
      refine Ev.neg c2 (Ev.pos (by omega) ?_)
      by_cases c4 : (c.toNat : Int) < 65
      · exact Ev.pos c4 (Ev.now _)
      refine Ev.neg c4 ?_
      by_cases c5 : Go.bits .or .u8 (c.toNat : Int) 32 < 97
      · exact Ev.pos c5 (Ev.now _)
      · exact Ev.neg c5 (Ev.pos (by omega) (Ev.now _))
theorem name_ev (s : ByteArray) : Ev (fun k => label_Name.f k s) (nameP (by_ s)) := by
  have hb := by_length s
  have hno : Ev (fun k => label_Name.j0 k s true) false := Ev.step (f := fun _ => some false) (fun _ => by simp [label_Name.j0]) (Ev.now _)
  unfold label_Name.f
  rw [toList_by]
  cases hs : by_ s with
  | nil => exact Ev.pos rfl hno
  | cons c l =>
    rw [hs] at hb
    simp only [List.length_cons] at hb
    have h0 : bt s 0 = (c.toNat : Int) := bt_at_ s 0 c (by rw [hs]; rfl)
    refine Ev.neg (by simp) ?_
    by_cases h32 : (s.size : Int) > 32
    · refine Ev.pos h32 ?_
      have e : nameP (c :: l) = false := by simp only [nameP]; rw [decide_eq_false (by omega)]; rfl
      rw [e]
      exact hno
    refine Ev.neg h32 (Ev.pos (by omega) ?_)
    have hyes : Ev (fun k => label_Name.j0 k s false) ((c :: l).all nameC) := by
      refine Ev.step (fun _ => rfl) ?_
      simp only [label_Name.j0]
      have h := name_loop s (by omega) s.size 0 rfl (by omega)
      rw [List.drop_zero, hs] at h
      exact Ev.neg (by simp) (Ev.pos (by omega) (Ev.one h))
    rw [h0]
    have e0 : decide (l.length < 32) = true := decide_eq_true (by omega)
    simp only [nameP, e0, Bool.true_and]
    by_cases c1 : (c.toNat : Int) ≥ 48
    · refine Ev.pos c1 ?_
      by_cases c2 : (c.toNat : Int) ≤ 57
      · rw [decide_eq_true c2, decide_eq_true (show 48 ≤ c.toNat by omega), decide_eq_true (show c.toNat ≤ 57 by omega)]
        exact hno
      · rw [decide_eq_false c2, decide_eq_false (show ¬ c.toNat ≤ 57 by omega), Bool.and_false, Bool.not_false, Bool.true_and]
        exact hyes
    · refine Ev.neg c1 ?_
      rw [decide_eq_false (show ¬ 48 ≤ c.toNat by omega), Bool.false_and, Bool.not_false, Bool.true_and]
      exact hyes
end Go.Proofs.Ytielpefbgdilaaa.B
end

section
set_option linter.unusedVariables false
set_option linter.unusedSimpArgs false
namespace Go.Proofs.Ytielpefbgdilaaa.B
open Go.RowKit Go.Proofs.Ytielpefbgdilaaa.X Go.Proofs.YtielpefbgdilaaaW.PrintWords Go.Proofs.YtielpefbgdilaaaW.PrintLast

/-! ### how names stand -/
/-- one name ahead of another one -/
def nl (a b : ByteArray) : Prop := Op.bytesLess (by_ a) (by_ b) = true
instance (a b : ByteArray) : Decidable (nl a b) := inferInstanceAs (Decidable (_ = true))
theorem cmpB : ∀ (a b : List UInt8), (Op.bytesLess a b = true ∧ Lib.compareBytes a b = -1) ∨ (a = b ∧ Lib.compareBytes a b = 0) ∨ (Op.bytesLess b a = true ∧ Lib.compareBytes a b = 1)
  | [], [] => .inr (.inl ⟨rfl, rfl⟩)
  | [], _ :: _ => .inl ⟨rfl, rfl⟩
  | _ :: _, [] => .inr (.inr ⟨rfl, rfl⟩)
  | x :: a, y :: b => by
    simp only [Op.bytesLess, Lib.compareBytes]
    by_cases h1 : x < y
    · exact .inl ⟨by simp [h1], by simp [h1]⟩
    · by_cases h2 : y < x
      · exact .inr (.inr ⟨by simp [h2], by simp [h1, h2]⟩)
      · have e : x = y := by
          rw [UInt8.lt_iff_toNat_lt] at h1 h2
          exact UInt8.toNat_inj.1 (by omega)
        subst e
        rw [if_neg h1, if_neg h1]
        rcases cmpB a b with h | h | h
        · exact .inl ⟨by simp [h.1], h.2⟩
        · exact .inr (.inl ⟨by rw [h.1], h.2⟩)
        · exact .inr (.inr ⟨by simp [h.1], h.2⟩)
theorem less_trans : ∀ {a b c : List UInt8}, Op.bytesLess a b = true → Op.bytesLess b c = true → Op.bytesLess a c = true
  | _, _, [], _, h => by simp [Op.bytesLess] at h
  | _, [], _ :: _, h, _ => by simp [Op.bytesLess] at h
  | [], _ :: _, _ :: _, _, _ => rfl
  | x :: a, y :: b, z :: c, h1, h2 => by
    simp only [Op.bytesLess, Bool.or_eq_true, decide_eq_true_eq, Bool.and_eq_true, beq_iff_eq, UInt8.lt_iff_toNat_lt] at h1 h2 ⊢
    rcases h1 with h1 | ⟨e1, h1⟩
    · rcases h2 with h2 | ⟨e2, h2⟩
      · exact .inl (by omega)
      · exact .inl (by rw [← e2]; exact h1)
    · rcases h2 with h2 | ⟨e2, h2⟩
      · exact .inl (by rw [e1]; exact h2)
      · exact .inr ⟨e1.trans e2, less_trans h1 h2⟩
theorem nl_irrefl (a : ByteArray) : ¬ nl a a := fun h => x_less_ne h rfl
theorem nl_asym {a b : ByteArray} (h : nl a b) : ¬ nl b a := fun h2 => by
  have := x_less_asym h
  rw [h2] at this
  cases this
theorem nl_trans {a b c : ByteArray} (h : nl a b) (h2 : nl b c) : nl a c := less_trans h h2
theorem nl_tri {a b : ByteArray} (h : ¬ nl a b) (h2 : ¬ nl b a) : a = b := by
  apply by_ext
  exact x_less_tri (Bool.not_eq_true _ ▸ h) (Bool.not_eq_true _ ▸ h2)
theorem names_f (a b c d : ByteArray) : ∃ r, label_names.f a b c d = some r ∧ (r < 0 ↔ nl a c) ∧ (r = 0 ↔ a = c) := by
  refine ⟨Lib.compareBytes (by_ a) (by_ c), ?_, ?_, ?_⟩
  · unfold label_names.f strings_Compare.f
    rfl
  · rcases cmpB (by_ a) (by_ c) with h | h | h
    · rw [h.2]
      exact ⟨fun _ => h.1, fun _ => by omega⟩
    · rw [h.2]
      exact ⟨fun h => by omega, fun h2 => absurd h.1 (x_less_ne h2)⟩
    · rw [h.2]
      exact ⟨fun h => by omega, fun h2 => absurd h2 (nl_asym (a := c) (b := a) h.1)⟩
  · rcases cmpB (by_ a) (by_ c) with h | h | h
    · rw [h.2]
      exact ⟨fun h => by omega, fun e => by subst e; exact absurd h.1 (nl_irrefl a)⟩
    · rw [h.2]
      exact ⟨fun _ => by_ext h.1, fun _ => rfl⟩
    · rw [h.2]
      exact ⟨fun h => by omega, fun e => by subst e; exact absurd h.1 (nl_irrefl a)⟩
/-! ### sets: each name once, rising -/
abbrev Lab := S39
def Rise (l : List Lab) : Prop := l.Pairwise fun a b => nl a.f0 b.f0
/-- how many stand ahead of a name -/
def posP (l : List Lab) (n : ByteArray) : Nat := (l.takeWhile fun x => decide (nl x.f0 n)).length
theorem posP_le (l : List Lab) (n : ByteArray) : posP l n ≤ l.length := (List.takeWhile_sublist _).length_le
theorem posP_lt : ∀ (l : List Lab) (n : ByteArray) (i : Nat) (h : i < l.length), i < posP l n → nl l[i].f0 n
  | x :: l, n, i, h, hi => by
    unfold posP at hi
    rw [List.takeWhile_cons] at hi
    split at hi
    · rename_i hx
      cases i with
      | zero => simpa using hx
      | succ i => exact posP_lt l n i (by simpa using h) (by simpa [posP] using hi)
    · simp at hi
theorem posP_ge : ∀ (l : List Lab) (hr : Rise l) (n : ByteArray) (i : Nat) (h : i < l.length), posP l n ≤ i → ¬ nl l[i].f0 n
  | x :: l, hr, n, i, h, hi => by
    unfold posP at hi
    rw [List.takeWhile_cons] at hi
    unfold Rise at hr
    rw [List.pairwise_cons] at hr
    split at hi
    · cases i with
      | zero => simp at hi
      | succ i => exact posP_ge l hr.2 n i (by simpa using h) (by simpa [posP] using hi)
    · rename_i hx
      have hx' : ¬ nl x.f0 n := by simpa using hx
      cases i with
      | zero => exact hx'
      | succ i =>
        have hi' : i < l.length := by simpa using h
        have h1 := hr.1 l[i] (List.getElem_mem hi')
        exact fun h2 => hx' (nl_trans h1 h2)
theorem posP_is (l : List Lab) (hr : Rise l) (n : ByteArray) (r : Nat) (hr1 : r ≤ l.length) (h1 : ∀ i (h : i < l.length), i < r → nl l[i].f0 n) (h2 : ∀ i (h : i < l.length), r ≤ i → ¬ nl l[i].f0 n) : r = posP l n := by
  have hp := posP_le l n
  rcases Nat.lt_trichotomy r (posP l n) with h | h | h
  · exact absurd (posP_lt l n r (by omega) h) (h2 r (by omega) (Nat.le_refl _))
  · exact h
  · exact absurd (h1 (posP l n) (by omega) h) (posP_ge l hr n _ (by omega) (Nat.le_refl _))
theorem rdLab (l : List Lab) (i : Nat) (h : i < l.length) : rd_T39 l (i : Int) = l[i] := by simp [rd_T39, h]
theorem mid_w (i j : Nat) (h : i + j < 4611686018427387904) : wrap64 ((IntKind.u64.wrap (wrap64 ((i : Int) + (j : Int)))) / 2) = (((i + j) / 2 : Nat) : Int) := by
  have e1 : wrap64 ((i : Int) + (j : Int)) = ((i + j : Nat) : Int) := by rw [wrap_in] <;> omega
  have e2 : IntKind.u64.wrap ((i + j : Nat) : Int) = ((i + j : Nat) : Int) := by
    unfold IntKind.wrap
    simp [IntKind.bits, IntKind.signed]
    omega
  rw [e1, e2, wrap_in] <;> omega
theorem search_loop (l : List Lab) (hl : l.length < 1000000000) (hr : Rise l) (n v : ByteArray) : ∀ (d i j : Nat), j - i ≤ d → i ≤ j → j ≤ l.length → (∀ m (h : m < l.length), m < i → nl l[m].f0 n) → (∀ m (h : m < l.length), j ≤ m → ¬ nl l[m].f0 n) →
    Ev (fun k => label_Pair_label_names.l0 k l (l.length : Int) (i : Int) (j : Int) n v) ((posP l n : Int), if h : posP l n < l.length then decide (l[posP l n].f0 = n) else false) := by
  intro d
  induction d with
  | zero =>
    intro i j hd hij hj h1 h2
    have e : i = j := by omega
    subst e
    have hp := posP_is l hr n i hj h1 h2
    refine Ev.step (fun _ => rfl) ?_
    simp only [label_Pair_label_names.l0]
    refine Ev.neg (by omega) ?_
    rw [← hp]
    by_cases hlt : i < l.length
    · obtain ⟨r, hf, _, h0⟩ := names_f l[i].f0 l[i].f1 n v
      rw [rdLab l i hlt, hf, dif_pos hlt]
      refine Ev.pos (by omega) (Ev.pos (by omega) (Ev.pos (by omega) (Ev.one (Ev.ret ?_))))
      congr 1
      rw [Bool.eq_iff_iff, beq_iff_eq, decide_eq_true_eq]
      exact h0
    · rw [dif_neg hlt]
      exact Ev.neg (by omega) (Ev.now _)
  | succ d ih =>
    intro i j hd hij hj h1 h2
    by_cases hlt : i < j
    · obtain ⟨m, hm⟩ : ∃ m, (i + j) / 2 = m := ⟨_, rfl⟩
      have hmi : i ≤ m ∧ m < j := by omega
      have hml : m < l.length := by omega
      obtain ⟨r, hf, hneg, _⟩ := names_f l[m].f0 l[m].f1 n v
      refine Ev.step (fun _ => rfl) ?_
      simp only [label_Pair_label_names.l0]
      rw [mid_w i j (by omega), hm, rdLab l m hml, hf, w1 m (by omega)]
      refine Ev.pos (by omega) (Ev.pos (by omega) (Ev.pos (by omega) (Ev.one ?_)))
      by_cases hc : r < 0
      · refine Ev.pos hc (ih (m + 1) j (by omega) (by omega) hj (fun q hq hqm => ?_) h2)
        have hx := hneg.1 hc
        rcases Nat.lt_or_ge q m with h | h
        · exact nl_trans ((List.pairwise_iff_getElem.1 hr) q m hq hml h) hx
        · have : q = m := by omega
          subst this
          exact hx
      · refine Ev.neg hc (ih i m (by omega) (by omega) (by omega) h1 (fun q hq hqm => ?_))
        have hx : ¬ nl l[m].f0 n := fun h => hc (hneg.2 h)
        rcases Nat.lt_or_ge m q with h | h
        · exact fun h3 => hx (nl_trans ((List.pairwise_iff_getElem.1 hr) m q hml hq h) h3)
        · have : q = m := by omega
          subst this
          exact hx
    · have e : i = j := by omega
      subst e
      exact ih i i (by omega) (Nat.le_refl _) hj h1 h2
end Go.Proofs.Ytielpefbgdilaaa.B
end

section
set_option linter.unusedVariables false
set_option linter.unusedSimpArgs false
namespace Go.Proofs.Ytielpefbgdilaaa.B
open Go.RowKit Go.Proofs.Ytielpefbgdilaaa.X Go.Proofs.YtielpefbgdilaaaW.PrintWords Go.Proofs.YtielpefbgdilaaaW.PrintLast

/-- one label more -/
def stepP (l : List Lab) (p : Lab) : List Lab :=
  if h : posP l p.f0 < l.length then if l[posP l p.f0].f0 = p.f0 then l.set (posP l p.f0) p else l.take (posP l p.f0) ++ [p] ++ l.drop (posP l p.f0)
  else l ++ [p]
theorem rise_cons {x : Lab} {l : List Lab} (h : Rise (x :: l)) : (∀ y ∈ l, nl x.f0 y.f0) ∧ Rise l := by
  unfold Rise at h
  rwa [List.pairwise_cons] at h
theorem stepP_cons (x : Lab) (l : List Lab) (p : Lab) : stepP (x :: l) p = if nl x.f0 p.f0 then x :: stepP l p else if x.f0 = p.f0 then p :: l else p :: x :: l := by
  unfold stepP posP
  by_cases h : nl x.f0 p.f0
  · rw [if_pos h]
    simp only [List.takeWhile_cons, decide_eq_true h, if_true, List.length_cons, Nat.add_lt_add_iff_right, List.getElem_cons_succ, List.set_cons_succ, List.take_succ_cons, List.drop_succ_cons, List.cons_append]
    split
    · split <;> rfl
    · rfl
  · rw [if_neg h]
    simp only [List.takeWhile_cons, decide_eq_false h, if_false, List.length_nil, List.length_cons, Bool.false_eq_true, Nat.zero_lt_succ, dite_true, List.getElem_cons_zero, List.set_cons_zero, List.take_zero, List.drop_zero, List.nil_append, List.singleton_append]
theorem stepP_nil (p : Lab) : stepP [] p = [p] := rfl
theorem stepP_mem : ∀ (l : List Lab) (p y : Lab), y ∈ stepP l p → y = p ∨ y ∈ l
  | [], p, y, h => .inl (List.mem_singleton.1 h)
  | x :: l, p, y, h => by
    rw [stepP_cons] at h
    split at h
    · rcases List.mem_cons.1 h with rfl | h
      · exact .inr (by simp)
      · rcases stepP_mem l p y h with h | h
        · exact .inl h
        · exact .inr (by simp [h])
    · split at h
      · rcases List.mem_cons.1 h with rfl | h
        · exact .inl rfl
        · exact .inr (by simp [h])
      · rcases List.mem_cons.1 h with rfl | h
        · exact .inl rfl
        · exact .inr h
theorem stepP_rise : ∀ (l : List Lab) (p : Lab), Rise l → Rise (stepP l p)
  | [], p, _ => List.pairwise_singleton ..
  | x :: l, p, h => by
    obtain ⟨h1, h2⟩ := rise_cons h
    rw [stepP_cons]
    split
    · rename_i hx
      refine List.pairwise_cons.2 ⟨fun y hy => ?_, stepP_rise l p h2⟩
      rcases stepP_mem l p y hy with rfl | hy
      · exact hx
      · exact h1 y hy
    · rename_i hx
      split
      · rename_i he
        exact List.pairwise_cons.2 ⟨fun y hy => by rw [← he]; exact h1 y hy, h2⟩
      · rename_i hne
        have hpx : nl p.f0 x.f0 := by
          by_cases h3 : nl p.f0 x.f0
          · exact h3
          · exact absurd (nl_tri hx h3) hne
        refine List.pairwise_cons.2 ⟨fun y hy => ?_, h⟩
        rcases List.mem_cons.1 hy with rfl | hy
        · exact hpx
        · exact nl_trans hpx (h1 y hy)
theorem stepP_length (l : List Lab) (p : Lab) : (stepP l p).length ≤ l.length + 1 := by
  induction l with
  | nil => exact Nat.le_refl _
  | cons x l ih =>
    rw [stepP_cons]
    split
    · simp only [List.length_cons]
      omega
    · split <;> simp
/-! ### label.Of -/
def ofP (l : List Lab) (L : List Lab) : List Lab := L.foldl (fun a p => if nameP (by_ p.f0) = true then stepP a p else a) l
theorem ofP_rise : ∀ (L l : List Lab), Rise l → Rise (ofP l L)
  | [], _, h => h
  | p :: L, l, h => by
    unfold ofP
    rw [List.foldl_cons]
    refine ofP_rise L _ ?_
    split
    · exact stepP_rise l p h
    · exact h
theorem of_loop (L : List Lab) (hL : L.length ≤ 1000000) : ∀ (d i : Nat) (l : List Lab), L.length - i = d → i ≤ L.length → l.length ≤ i → Rise l →
    Ev (fun k => label_Of.l0 k l L (L.length : Int) (i : Int)) (ofP l (L.drop i)) := by
  intro d
  induction d with
  | zero =>
    intro i l hd hi hl hr
    refine Ev.step (fun _ => rfl) ?_
    simp only [label_Of.l0]
    rw [List.drop_of_length_le (by omega)]
    exact Ev.neg (by omega) (Ev.now _)
  | succ d ih =>
    intro i l hd hi hl hr
    have hlt : i < L.length := by omega
    obtain ⟨p, hp⟩ : ∃ p, L[i] = p := ⟨_, rfl⟩
    rw [List.drop_eq_getElem_cons hlt, hp]
    have hpl := posP_le l p.f0
    have hs := search_loop l (by omega) hr p.f0 p.f1 l.length 0 l.length (by omega) (Nat.zero_le _) (Nat.le_refl _) (fun m _ h => absurd h (Nat.not_lt_zero m)) (fun m h h2 => by omega)
    refine Ev.step (fun _ => rfl) ?_
    simp only [label_Of.l0]
    rw [rdLab L i hlt, hp, w1 i (by omega)]
    refine Ev.pos (by omega) (Ev.pos (by omega) (Ev.pos (by omega) (Ev.bind (name_ev p.f0) ?_)))
    unfold ofP
    rw [List.foldl_cons]
    by_cases hn : nameP (by_ p.f0) = true
    · rw [if_pos hn]
      refine Ev.pos hn (Ev.bind hs ?_)
      have ih' := ih (i + 1) (stepP l p) (by omega) (by omega) (by have := stepP_length l p; omega) (stepP_rise l p hr)
      unfold ofP at ih'
      dsimp only
      by_cases hlt2 : posP l p.f0 < l.length
      · rw [dif_pos hlt2]
        by_cases he : l[posP l p.f0].f0 = p.f0
        · have e : stepP l p = l.set (posP l p.f0) p := by unfold stepP; rw [dif_pos hlt2, if_pos he]
          rw [e] at ih' ⊢
          rw [Int.toNat_natCast]
          exact Ev.pos (decide_eq_true he) (Ev.pos (by omega) (Ev.pos (by omega) ih'))
        · have e : stepP l p = l.take (posP l p.f0) ++ [p] ++ l.drop (posP l p.f0) := by unfold stepP; rw [dif_pos hlt2, if_neg he]
          have e2 : label_Pair_36.f l (posP l p.f0 : Int) [p] = some (stepP l p) := by
            unfold label_Pair_36.f
            rw [if_pos ⟨by omega, by omega, rfl, by omega⟩, Int.toNat_natCast, e]
          refine Ev.neg (by rw [decide_eq_true_eq]; exact he) ?_
          show Ev (fun k => (label_Pair_36.f l (posP l p.f0 : Int) [p]).bind fun t => label_Of.l0 k t L (L.length : Int) ((i + 1 : Nat) : Int)) _
          rw [e2]
          exact Ev.one ih'
      · rw [dif_neg hlt2]
        have e0 : posP l p.f0 = l.length := by omega
        have e : stepP l p = l ++ [p] := by unfold stepP; rw [dif_neg hlt2]
        have e2 : label_Pair_36.f l (posP l p.f0 : Int) [p] = some (stepP l p) := by
          unfold label_Pair_36.f
          rw [if_pos ⟨by omega, by omega, rfl, by omega⟩, Int.toNat_natCast, e0, List.take_length, List.drop_length, List.append_nil, e]
        refine Ev.neg (by decide) ?_
        show Ev (fun k => (label_Pair_36.f l (posP l p.f0 : Int) [p]).bind fun t => label_Of.l0 k t L (L.length : Int) ((i + 1 : Nat) : Int)) _
        rw [e2]
        exact Ev.one ih'
    · rw [if_neg hn]
      have ih' := ih (i + 1) l (by omega) (by omega) (by omega) hr
      unfold ofP at ih'
      exact Ev.neg hn ih'
theorem of_ev (L : List Lab) (hL : L.length ≤ 1000000) : Ev (fun k => label_Of.f k L) (ofP [] L) := by
  have h := of_loop L hL L.length 0 [] rfl (Nat.zero_le _) (Nat.zero_le _) List.Pairwise.nil
  rw [List.drop_zero] at h
  exact h
end Go.Proofs.Ytielpefbgdilaaa.B
end

section
set_option linter.unusedVariables false
set_option linter.unusedSimpArgs false
namespace Go.Proofs.Ytielpefbgdilaaa.B
open Go.RowKit Go.Proofs.Ytielpefbgdilaaa.X Go.Proofs.YtielpefbgdilaaaW.PrintWords Go.Proofs.YtielpefbgdilaaaW.PrintLast

/-- a byte as it is put -/
def oneP (b : UInt8) : List UInt8 :=
  if b.toNat = 34 ∨ b.toNat = 92 then [92, b] else if b.toNat = 10 then [92, 110] else if b.toNat = 9 then [92, 116]
  else if b.toNat < 32 ∨ 126 < b.toNat then [92, 120, hexd.getD (b.toNat / 16) 0, hexd.getD (b.toNat % 16) 0] else [b]
theorem oneP_len (b : UInt8) : 1 ≤ (oneP b).length ∧ (oneP b).length ≤ 4 := by
  have h : ∀ n : Fin 256, 1 ≤ (oneP (UInt8.ofNat n.val)).length ∧ (oneP (UInt8.ofNat n.val)).length ≤ 4 := by decide +kernel
  have := h ⟨b.toNat, b.toNat_lt⟩
  simpa using this
theorem escR_more {l : List UInt8} {b : UInt8} {n : Nat} (r : List UInt8) (h : escP l = some (b, n)) : escP (l ++ r) = some (b, n) := by
  match l, h with
  | [], h => simp [escP] at h
  | [c], h =>
    simp only [escP] at h
    simp only [List.cons_append, List.nil_append, escP]
    repeat' split at h
    all_goals first
      | (cases h; done)
      | simp_all
  | [c, d], h =>
    simp only [escP] at h
    simp only [List.cons_append, List.nil_append, escP]
    repeat' split at h
    all_goals first
      | (cases h; done)
      | simp_all
  | c :: d :: e :: l, h => exact h
theorem decR_more {l : List UInt8} {b : UInt8} {n : Nat} (r : List UInt8) (h : decP l = some (b, n)) : decP (l ++ r) = some (b, n) := by
  match l, h with
  | [], h => simp [decP] at h
  | c :: l, h =>
    simp only [List.cons_append, decP] at h ⊢
    by_cases c1 : c.toNat = 92
    · rw [if_pos c1] at h ⊢
      obtain ⟨⟨b2, n2⟩, h2, h3⟩ := Option.map_eq_some_iff.1 h
      rw [escR_more r h2]
      exact congrArg some h3
    · rw [if_neg c1] at h ⊢
      exact h
/-- what a byte is put is that byte -/
theorem dec_one (b : UInt8) (r : List UInt8) : decP (oneP b ++ r) = some (b, (oneP b).length) := by
  refine decR_more r ?_
  have h : ∀ n : Fin 256, decP (oneP (UInt8.ofNat n.val)) = some (UInt8.ofNat n.val, (oneP (UInt8.ofNat n.val)).length) := by decide +kernel
  have := h ⟨b.toNat, b.toNat_lt⟩
  simpa using this
theorem hex_back (h g : UInt8) (h0 : 0 ≤ hexv h) (g0 : 0 ≤ hexv g) : hexd.getD (hexv h).toNat 0 = h ∧ hexd.getD (hexv g).toNat 0 = g := by
  have hh : ∀ n : Fin 256, 0 ≤ hexv (UInt8.ofNat n.val) → hexd.getD (hexv (UInt8.ofNat n.val)).toNat 0 = UInt8.ofNat n.val := by decide +kernel
  have h1 := hh ⟨h.toNat, h.toNat_lt⟩
  have h2 := hh ⟨g.toNat, g.toNat_lt⟩
  simp only [UInt8.ofNat_toNat] at h1 h2
  exact ⟨h1 h0, h2 g0⟩
/-- what a text begins with is one byte as it is put -/
theorem one_dec {l : List UInt8} {b : UInt8} {n : Nat} (h : decP l = some (b, n)) (hq : l.head? ≠ some 34) : l = oneP b ++ l.drop n ∧ n = (oneP b).length := by
  match l, h with
  | [], h => simp [decP] at h
  | c :: l, h =>
    have hq2 : c.toNat ≠ 34 := fun e => hq (by simp; exact UInt8.toNat_inj.1 e)
    simp only [decP] at h
    by_cases c1 : c.toNat = 92
    · rw [if_pos c1] at h
      have hc : c = 92 := UInt8.toNat_inj.1 c1
      obtain ⟨⟨b2, n2⟩, h2, h3⟩ := Option.map_eq_some_iff.1 h
      simp only [Prod.mk.injEq] at h3
      obtain ⟨rfl, rfl⟩ := h3
      match l, h2 with
      | [], h2 => simp [escP] at h2
      | d :: l, h2 =>
        simp only [escP] at h2
        by_cases d1 : d.toNat = 34
        · rw [if_pos d1] at h2
          simp only [Option.some.injEq, Prod.mk.injEq] at h2
          obtain ⟨rfl, rfl⟩ := h2
          have : oneP d = [92, d] := by simp [oneP, d1]
          rw [this, hc]
          exact ⟨rfl, rfl⟩
        rw [if_neg d1] at h2
        by_cases d2 : d.toNat = 92
        · rw [if_pos d2] at h2
          simp only [Option.some.injEq, Prod.mk.injEq] at h2
          obtain ⟨rfl, rfl⟩ := h2
          have : oneP d = [92, d] := by simp [oneP, d2]
          rw [this, hc]
          exact ⟨rfl, rfl⟩
        rw [if_neg d2] at h2
        by_cases d3 : d.toNat = 110
        · rw [if_pos d3] at h2
          simp only [Option.some.injEq, Prod.mk.injEq] at h2
          obtain ⟨rfl, rfl⟩ := h2
          have : oneP 10 = [92, 110] := by decide
          rw [this, hc, show d = 110 from UInt8.toNat_inj.1 d3]
          exact ⟨rfl, rfl⟩
        rw [if_neg d3] at h2
        by_cases d4 : d.toNat = 116
        · rw [if_pos d4] at h2
          simp only [Option.some.injEq, Prod.mk.injEq] at h2
          obtain ⟨rfl, rfl⟩ := h2
          have : oneP 9 = [92, 116] := by decide
          rw [this, hc, show d = 116 from UInt8.toNat_inj.1 d4]
          exact ⟨rfl, rfl⟩
        rw [if_neg d4] at h2
        match l, h2 with
        | [], h2 => simp at h2
        | [_], h2 => simp at h2
        | x :: y :: l, h2 =>
          simp only at h2
          split at h2
          · rename_i hh
            obtain ⟨k1, k2, k3, k4, k5, k6⟩ := hh
            simp only [Option.some.injEq, Prod.mk.injEq] at h2
            obtain ⟨rfl, rfl⟩ := h2
            have hx := hexv_range x
            have hy := hexv_range y
            obtain ⟨ex, ey⟩ := hex_back x y k2 k3
            obtain ⟨m, hm⟩ : ∃ m : Nat, (hexv x * 16 + hexv y).toNat = m := ⟨_, rfl⟩
            have hmb : m < 256 := by omega
            have e0 : (UInt8.ofNat m).toNat = m := by simp; omega
            have : oneP (UInt8.ofNat m) = [92, 120, x, y] := by
              unfold oneP
              rw [e0, if_neg (by omega), if_neg (by omega), if_neg (by omega), if_pos (by omega), show m / 16 = (hexv x).toNat by omega, show m % 16 = (hexv y).toNat by omega, ex, ey]
            rw [hm, this, hc, show d = 120 from UInt8.toNat_inj.1 k1]
            exact ⟨rfl, rfl⟩
          · cases h2
    · rw [if_neg c1] at h
      split at h
      · cases h
      · rename_i hr
        simp only [Option.some.injEq, Prod.mk.injEq] at h
        obtain ⟨rfl, rfl⟩ := h
        have : oneP c = [c] := by
          unfold oneP
          rw [if_neg (by omega), if_neg (by omega), if_neg (by omega), if_neg (by omega)]
        rw [this]
        exact ⟨rfl, rfl⟩
/-! ### small numbers -/
/-- a length that is small enough (a word of its own, so that no tactic unfolds the number) -/
def SmallN (n : Nat) : Prop := n < 140737488355328
theorem SmallN.of {n : Nat} (h : n < 140737488355328) : SmallN n := h
theorem SmallN.add {i : Nat} (h : SmallN i) (n : Nat) (hn : n ≤ 4) : wrap64 ((i : Int) + (n : Int)) = ((i + n : Nat) : Int) := by
  have h2 : (i : Int) < 140737488355328 := Int.ofNat_lt.2 h
  unfold wrap64
  omega
theorem SmallN.up {i : Nat} (h : SmallN i) {acc : List UInt8} (ha : acc.length ≤ i) : (up_ acc).length < 140737488355328 := by
  rw [up_, List.length_map]
  exact Nat.lt_of_le_of_lt ha h
theorem SmallN.lt {i n : Nat} (hs : SmallN n) (h : i < n) : SmallN i := Nat.lt_trans h hs
theorem SmallN.low {i n : Nat} (hs : SmallN n) (h : i ≤ n) : SmallN i := Nat.lt_of_le_of_lt h hs
theorem SmallN.out {n : Nat} (hs : SmallN n) : n < 140737488355328 := hs
attribute [irreducible] SmallN
end Go.Proofs.Ytielpefbgdilaaa.B
end

section
set_option linter.unusedVariables false
set_option linter.unusedSimpArgs false
namespace Go.Proofs.Ytielpefbgdilaaa.B
open Go.RowKit Go.Proofs.Ytielpefbgdilaaa.X Go.Proofs.YtielpefbgdilaaaW.PrintWords Go.Proofs.YtielpefbgdilaaaW.PrintLast

/-- a text in quotes -/
def putP (t : List UInt8) : List UInt8 := 34 :: (t.flatMap oneP ++ [34])
theorem flat_len : ∀ t : List UInt8, t.length ≤ (t.flatMap oneP).length ∧ (t.flatMap oneP).length ≤ 4 * t.length
  | [] => by simp
  | b :: t => by
    have h := flat_len t
    have h2 := oneP_len b
    rw [List.flatMap_cons, List.length_append, List.length_cons]
    omega
theorem putP_len (t : List UInt8) : (putP t).length = (t.flatMap oneP).length + 2 := by simp [putP]
/-! ### something behind -/
theorem getP_len' {t x : List UInt8} {n : Nat} (h : getP t = some (x, n)) : 2 ≤ n ∧ n ≤ t.length := by
  match t, h with
  | [], h => simp [getP] at h
  | c :: l, h =>
    simp only [getP] at h
    split at h
    · obtain ⟨⟨y, m⟩, h1, h2⟩ := Option.map_eq_some_iff.1 h
      have := unqP_len _ l y m rfl h1
      simp at h2
      obtain ⟨_, rfl⟩ := h2
      simp
      omega
    · simp at h
/-! ### the program's Put -/
theorem hex_and (b : UInt8) : bt (⟨#[48, 49, 50, 51, 52, 53, 54, 55, 56, 57, 97, 98, 99, 100, 101, 102]⟩ : ByteArray) ((b.toNat : Int) / 16) = ((hexd.getD (b.toNat / 16) 0).toNat : Int) ∧
    bt (⟨#[48, 49, 50, 51, 52, 53, 54, 55, 56, 57, 97, 98, 99, 100, 101, 102]⟩ : ByteArray) (Go.bits .and .u8 (b.toNat : Int) 15) = ((hexd.getD (b.toNat % 16) 0).toNat : Int) ∧
    0 ≤ (b.toNat : Int) / 16 ∧ (b.toNat : Int) / 16 < 16 ∧ 0 ≤ Go.bits .and .u8 (b.toNat : Int) 15 ∧ Go.bits .and .u8 (b.toNat : Int) 15 < 16 := by
  have h : ∀ n : Fin 256, bt (⟨#[48, 49, 50, 51, 52, 53, 54, 55, 56, 57, 97, 98, 99, 100, 101, 102]⟩ : ByteArray) (((UInt8.ofNat n.val).toNat : Int) / 16) = ((hexd.getD ((UInt8.ofNat n.val).toNat / 16) 0).toNat : Int) ∧
    bt (⟨#[48, 49, 50, 51, 52, 53, 54, 55, 56, 57, 97, 98, 99, 100, 101, 102]⟩ : ByteArray) (Go.bits .and .u8 ((UInt8.ofNat n.val).toNat : Int) 15) = ((hexd.getD ((UInt8.ofNat n.val).toNat % 16) 0).toNat : Int) ∧
    0 ≤ ((UInt8.ofNat n.val).toNat : Int) / 16 ∧ ((UInt8.ofNat n.val).toNat : Int) / 16 < 16 ∧ 0 ≤ Go.bits .and .u8 ((UInt8.ofNat n.val).toNat : Int) 15 ∧ Go.bits .and .u8 ((UInt8.ofNat n.val).toNat : Int) 15 < 16 := by decide +kernel
  have := h ⟨b.toNat, b.toNat_lt⟩
  simpa only [UInt8.ofNat_toNat] using this
theorem put_one (b : UInt8) (acc : List UInt8) (ys : List Int) (n i : Int) (R : ByteArray) (hs : SmallN (acc.length + 4)) (e1 : wrap64 (i + 1) = i + 1)
    (h : Ev (fun k => quote_Put.l0 k (up_ (acc ++ oneP b)) ys n (i + 1)) R) :
    Ev (fun k => if (b.toNat : Int) = 34 then quote_Put.j1 k (up_ acc) (b.toNat : Int) ys n i true else quote_Put.j1 k (up_ acc) (b.toNat : Int) ys n i ((b.toNat : Int) == 92)) R := by
  have up2 : ∀ w : List UInt8, up_ acc ++ up_ w = up_ (acc ++ w) := fun w => by simp [up_]
  have sm : ∀ w : List Int, w.length ≤ 4 → (up_ acc).length + w.length < 140737488355328 := fun w hw => by
    have h0 : (up_ acc).length = acc.length := by rw [up_, List.length_map]
    rw [h0]
    exact Nat.lt_of_le_of_lt (Nat.add_le_add_left hw _) hs.out
  have go : ∀ w : List Int, w.length ≤ 4 → up_ (oneP b) = w → Ev (fun k => (some w).bind fun y => (if (up_ acc).length + y.length < 140737488355328 then (quote_Put.l0 k ((up_ acc) ++ y) ys n (wrap64 (i + 1))) else (none))) R := fun w hw hb => by
    refine Ev.one (Ev.pos (sm w hw) ?_)
    rw [e1, ← hb, up2]
    exact h
  obtain ⟨x1, x2, x3, x4, x5, x6⟩ := hex_and b
  by_cases c1 : b.toNat = 34
  · refine Ev.pos (by rw [c1]; rfl) (Ev.step (fun _ => rfl) ?_)
    simp only [quote_Put.j1]
    refine Ev.pos (by trivial) (go _ (by simp) ?_)
    rw [oneP, if_pos (.inl c1)]
    rfl
  refine Ev.neg (fun e => c1 (Int.ofNat_inj.1 e)) (Ev.step (fun _ => rfl) ?_)
  simp only [quote_Put.j1]
  by_cases c2 : b.toNat = 92
  · refine Ev.pos (by rw [c2]; rfl) (go _ (by simp) ?_)
    rw [oneP, if_pos (.inr c2)]
    rfl
  have c12 : ¬ (b.toNat = 34 ∨ b.toNat = 92) := fun e => e.elim c1 c2
  refine Ev.neg (by rw [beq_iff_eq]; exact fun e => c2 (Int.ofNat_inj.1 e)) ?_
  by_cases c3 : b.toNat = 10
  · refine Ev.pos (by rw [c3]; rfl) (go _ (by simp) ?_)
    rw [oneP, if_neg c12, if_pos c3]
    rfl
  refine Ev.neg (fun e => c3 (Int.ofNat_inj.1 e)) ?_
  by_cases c4 : b.toNat = 9
  · refine Ev.pos (by rw [c4]; rfl) (go _ (by simp) ?_)
    rw [oneP, if_neg c12, if_neg c3, if_pos c4]
    rfl
  refine Ev.neg (fun e => c4 (Int.ofNat_inj.1 e)) ?_
  by_cases c5 : b.toNat < 32
  · refine Ev.pos (Int.ofNat_lt.2 c5) (Ev.pos x3 (Ev.pos x4 (Ev.pos x5 (Ev.pos x6 (go _ (by simp) ?_)))))
    rw [x1, x2, oneP, if_neg c12, if_neg c3, if_neg c4, if_pos (.inl c5)]
    rfl
  refine Ev.neg (fun e => c5 (Int.ofNat_lt.1 e)) ?_
  by_cases c6 : 126 < b.toNat
  · refine Ev.pos (Int.ofNat_lt.2 c6) (Ev.pos x3 (Ev.pos x4 (Ev.pos x5 (Ev.pos x6 (go _ (by simp) ?_)))))
    rw [x1, x2, oneP, if_neg c12, if_neg c3, if_neg c4, if_pos (.inr c6)]
    rfl
  · refine Ev.neg (fun e => c6 (Int.ofNat_lt.1 e)) (Ev.pos (sm [] (by simp)) ?_)
    have e : up_ acc ++ [(b.toNat : Int)] = up_ (acc ++ oneP b) := by
      rw [oneP, if_neg c12, if_neg c3, if_neg c4, if_neg (fun e => e.elim c5 c6), ← up2]
      rfl
    rw [e, e1]
    exact h
theorem put_loop (s : ByteArray) (hs : SmallN (4 * s.size + 8)) : ∀ (d i : Nat) (acc : List UInt8), s.size - i = d → i ≤ s.size → acc.length ≤ 1 + 4 * i →
    Ev (fun k => quote_Put.l0 k (up_ acc) (bytesOf s) ((bytesOf s).length : Int) (i : Int)) ⟨(acc ++ ((by_ s).drop i).flatMap oneP ++ [34]).toArray⟩ := by
  intro d
  induction d with
  | zero =>
    intro i acc hd hi ha
    have hb := by_length s
    have hl := bytesOf_length s
    refine Ev.step (fun _ => rfl) ?_
    simp only [quote_Put.l0]
    rw [List.drop_of_length_le (by omega)]
    refine Ev.neg (by omega) (Ev.pos ((hs.low (by omega)).up (Nat.le_refl acc.length)) (Ev.ret ?_))
    rw [List.flatMap_nil, List.append_nil, ← nums_up]
    simp [up_]
  | succ d ih =>
    intro i acc hd hi ha
    have hb := by_length s
    have hl := bytesOf_length s
    have hlt : i < (by_ s).length := by omega
    have hc : rd (bytesOf s) (i : Int) = (((by_ s)[i]).toNat : Int) := by rw [rd_bytesOf, bt_by s i hlt]
    obtain ⟨b, hbb⟩ : ∃ b, (by_ s)[i] = b := ⟨_, rfl⟩
    rw [hbb] at hc
    have hob := oneP_len b
    have hdr := List.drop_eq_getElem_cons hlt
    rw [hbb] at hdr
    rw [hdr, List.flatMap_cons, ← List.append_assoc]
    refine Ev.step (fun _ => rfl) ?_
    simp only [quote_Put.l0]
    rw [hc]
    refine Ev.pos (by omega) (Ev.pos (by omega) (Ev.pos (by omega) ?_))
    have ih' := ih (i + 1) (acc ++ oneP b) (by omega) (by omega) (by rw [List.length_append]; omega)
    refine put_one b acc _ _ _ _ (hs.low (by omega)) ?_ ih'
    exact (hs.low (i := i) (by omega)).add 1 (by omega)
theorem put_ev (s : ByteArray) (hs : SmallN (4 * s.size + 8)) : Ev (fun k => quote_Put.f k s) ⟨(putP (by_ s)).toArray⟩ := by
  have h := put_loop s hs s.size 0 [34] rfl (Nat.zero_le _) (by simp)
  unfold quote_Put.f
  refine Ev.pos (Nat.le_trans (Nat.le_trans (by omega) (Nat.le_of_lt hs.out)) (by decide : 140737488355328 ≤ 9223372036854775807)) (Ev.one ?_)
  exact h
end Go.Proofs.Ytielpefbgdilaaa.B
end

section
set_option linter.unusedVariables false
set_option linter.unusedSimpArgs false
namespace Go.Proofs.Ytielpefbgdilaaa.B
open Go.RowKit Go.Proofs.Ytielpefbgdilaaa.X Go.Proofs.YtielpefbgdilaaaW.PrintWords Go.Proofs.YtielpefbgdilaaaW.PrintLast

def pfxP (o t : List UInt8) : Bool := t.take o.length == o
theorem pfx_f (t op : ByteArray) : strings_HasPrefix.f t op = some (pfxP (by_ op) (by_ t)) := by
  have h1 := by_length t
  have h2 := by_length op
  unfold strings_HasPrefix.f stringslite_HasPrefix.f pfxP
  by_cases h : (t.size : Int) ≥ (op.size : Int)
  · rw [if_pos h, if_pos (by omega), if_pos (by omega), Option.bind_some, toList_by, toList_by, by_extract, List.drop_zero, h2]
  · rw [if_neg h, Option.bind_some]
    congr 1
    symm
    rw [beq_eq_false_iff_ne]
    intro e
    have := congrArg List.length e
    rw [List.length_take] at this
    omega
end Go.Proofs.Ytielpefbgdilaaa.B
end

section
set_option linter.unusedVariables false
set_option linter.unusedSimpArgs false
namespace Go.Proofs.Ytielpefbgdilaaa.B
open Go.RowKit Go.Proofs.Ytielpefbgdilaaa.X Go.Proofs.YtielpefbgdilaaaW.PrintWords Go.Proofs.YtielpefbgdilaaaW.PrintLast

/-! ### what a cut is -/
/-! ### joined -/
def joinP (sep : List UInt8) (l : List (List UInt8)) : List UInt8 := Go.Lib.join l sep
theorem joinP_nil (sep : List UInt8) : joinP sep [] = [] := rfl
theorem joinP_one (sep x : List UInt8) : joinP sep [x] = x := Go.Lib.join_one x sep
theorem joinP_cons (sep x y : List UInt8) (l : List (List UInt8)) : joinP sep (x :: y :: l) = x ++ sep ++ joinP sep (y :: l) := by
  unfold joinP
  rw [Go.Lib.join_cons, Go.Lib.join_cons]
  simp [Go.Lib.joinTail]
theorem join_f (sep : ByteArray) (l : List ByteArray) (hl : l.length ≤ 140737488355328) (hz : (joinP (by_ sep) (l.map by_)).length ≤ 140737488355328) : quote_Join.f sep l = some ⟨(joinP (by_ sep) (l.map by_)).toArray⟩ := by
  have e : strings_Join.pure l sep = ⟨(joinP (by_ sep) (l.map by_)).toArray⟩ := rfl
  unfold quote_Join.f strings_Join.f
  rw [e, if_pos ⟨hl, by rw [← by_length, by_mk]; exact hz⟩]
  rfl
end Go.Proofs.Ytielpefbgdilaaa.B
end

section
set_option linter.unusedVariables false
set_option linter.unusedSimpArgs false
namespace Go.Proofs.Ytielpefbgdilaaa.B
open Go.RowKit Go.Proofs.Ytielpefbgdilaaa.X Go.Proofs.YtielpefbgdilaaaW.PrintWords Go.Proofs.YtielpefbgdilaaaW.PrintLast

theorem ba_eq {a b : ByteArray} : a.toList = b.toList ↔ a = b := by
  rw [toList_by, toList_by]
  exact ⟨by_ext, fun h => by rw [h]⟩
/-! ### are two the same? -/
instance : DecidableEq Lab := fun a b =>
  if h : a.f0 = b.f0 ∧ a.f1 = b.f1 then isTrue (by
    cases a
    cases b
    simp only at h
    rw [h.1, h.2]) else isFalse (fun e => h (by rw [e]; exact ⟨rfl, rfl⟩))
/-! ### with more -/
end Go.Proofs.Ytielpefbgdilaaa.B
end

section
set_option linter.unusedVariables false
set_option linter.unusedSimpArgs false
namespace Go.Proofs.Ytielpefbgdilaaa.B
open Go.RowKit Go.Proofs.Ytielpefbgdilaaa.X Go.Proofs.YtielpefbgdilaaaW.PrintWords Go.Proofs.YtielpefbgdilaaaW.PrintLast

/-! ### Right -/
def okL (p : Lab) : Bool := nameP (by_ p.f0) && decide (p.f1.size ≤ 256)
def stepsB : Option Lab → List Lab → Bool
  | _, [] => true
  | none, p :: r => okL p && stepsB (some p) r
  | some q, p :: r => okL p && (decide (nl q.f0 p.f0) && stepsB (some p) r)
def rightL (l : List Lab) : Bool := stepsB none l && decide (l.length ≤ 16)
/-! ### Parse -/
/-! ### Text -/
def fieldP (p : Lab) : List UInt8 := by_ p.f0 ++ 61 :: putP (by_ p.f1)
end Go.Proofs.Ytielpefbgdilaaa.B
end

section
set_option linter.unusedVariables false
set_option linter.unusedSimpArgs false
namespace Go.Proofs.Ytielpefbgdilaaa.B
open Go.RowKit Go.Proofs.Ytielpefbgdilaaa.X Go.Proofs.YtielpefbgdilaaaW.PrintWords Go.Proofs.YtielpefbgdilaaaW.PrintLast

abbrev Tg := S41
theorem rdTag (l : List Tg) (i : Nat) (h : i < l.length) : rd_T41 l (i : Int) = l[i] := by simp [rd_T41, h]
theorem tag_256 : ∀ k : Fin 256, (match archivistlaw10_Tag_tag.f ByteArray.empty ByteArray.empty true (k.val : Int) with | some p => decide (p.1.size ≤ 3 ∧ p.2.size ≤ 3) | none => false) = true := by decide +kernel
theorem tag_f (n v : ByteArray) (own : Bool) (K : Int) (h0 : 0 ≤ K) (h1 : K < 256) : ∃ p : ByteArray × ByteArray, archivistlaw10_Tag_tag.f n v own K = some p ∧ (p = (n, v) ∨ p.1.size ≤ 3 ∧ p.2.size ≤ 3) := by
  cases own with
  | false => exact ⟨(n, v), by unfold archivistlaw10_Tag_tag.f; rfl, .inl rfl⟩
  | true =>
    obtain ⟨m, rfl⟩ := Int.eq_ofNat_of_zero_le h0
    have h := tag_256 ⟨m, by omega⟩
    have e : archivistlaw10_Tag_tag.f n v true (m : Int) = archivistlaw10_Tag_tag.f ByteArray.empty ByteArray.empty true (m : Int) := rfl
    rw [e]
    dsimp only at h
    split at h
    · rename_i p hp
      exact ⟨p, hp, .inr (of_decide_eq_true h)⟩
    · cases h
/-- a label that is drawn: one of those that came, or one of the little ones -/
def Drawn1 (l : List Tg) (p : Lab) : Prop := (∃ y ∈ l, p.f0 = y.f0.f0 ∧ p.f1 = y.f0.f1) ∨ p.f0.size ≤ 3 ∧ p.f1.size ≤ 3
theorem tags_loop (l : List Tg) (hg : ∀ y ∈ l, 0 ≤ y.f2 ∧ y.f2 < 256) (m : Nat) (hm : m ≤ 1000) : ∀ (d i : Nat) (acc : List Lab), m - i = d → i ≤ m → acc.length = i → (∀ p ∈ acc, Drawn1 l p) →
    ∃ L : List Lab, L.length ≤ m ∧ (∀ p ∈ L, Drawn1 l p) ∧ Ev (fun k => archivistlaw10_tags.l0 k l (m : Int) acc (i : Int)) L := by
  intro d
  induction d with
  | zero =>
    intro i acc hd hi ha hp
    refine ⟨acc, by omega, hp, Ev.step (fun _ => rfl) ?_⟩
    simp only [archivistlaw10_tags.l0]
    by_cases h : (i : Int) < (l.length : Int)
    · exact Ev.pos h (Ev.neg (by omega) (Ev.now _))
    · exact Ev.neg h (Ev.now _)
  | succ d ih =>
    intro i acc hd hi ha hp
    by_cases h : i < l.length
    · obtain ⟨h0, h1⟩ := hg l[i] (List.getElem_mem h)
      obtain ⟨p, hpf, hps⟩ := tag_f l[i].f0.f0 l[i].f0.f1 l[i].f1 l[i].f2 h0 h1
      obtain ⟨L, hL, hLp, hev⟩ := ih (i + 1) (acc ++ [⟨p.1, p.2⟩]) (by omega) (by omega) (by rw [List.length_append, ha]; rfl) (fun q hq => by
        rcases List.mem_append.1 hq with hq | hq
        · exact hp q hq
        · rw [List.mem_singleton.1 hq]
          rcases hps with rfl | hps
          · exact .inl ⟨l[i], List.getElem_mem h, rfl, rfl⟩
          · exact .inr hps)
      refine ⟨L, hL, hLp, Ev.step (fun _ => rfl) ?_⟩
      simp only [archivistlaw10_tags.l0]
      rw [rdTag l i h, hpf, w1 i (by omega)]
      exact Ev.pos (by omega) (Ev.pos (by omega) (Ev.pos (by omega) (Ev.one (Ev.pos (by omega) hev))))
    · refine ⟨acc, by omega, hp, Ev.step (fun _ => rfl) ?_⟩
      simp only [archivistlaw10_tags.l0]
      exact Ev.neg (by omega) (Ev.now _)
theorem tags_ev (l : List Tg) (hg : ∀ y ∈ l, (Lit.int .u8 y.f2).wf = true) (m : Nat) (hm : m ≤ 1000) : ∃ L : List Lab, L.length ≤ m ∧ (∀ p ∈ L, Drawn1 l p) ∧ Ev (fun k => archivistlaw10_tags.f k l (m : Int)) L := by
  unfold archivistlaw10_tags.f
  refine tags_loop l (fun y hy => ?_) m hm m 0 [] rfl (Nat.zero_le _) rfl (fun p h => by simp at h)
  have h := hg y hy
  simp [Lit.wf, IntKind.min, IntKind.max, IntKind.bits, IntKind.signed] at h
  omega
/-! ### what Of tells of a name -/
theorem ofP_names : ∀ (L l : List Lab), (∀ p ∈ l, nameP (by_ p.f0) = true) → ∀ p ∈ ofP l L, nameP (by_ p.f0) = true
  | [], _, h => h
  | q :: L, l, h => by
    unfold ofP
    rw [List.foldl_cons]
    refine ofP_names L _ ?_
    split
    · rename_i hq
      intro p hp
      rcases stepP_mem l q p hp with rfl | hp
      · exact hq
      · exact h p hp
    · exact h
theorem of_rise (L : List Lab) : Rise (ofP [] L) := ofP_rise L [] List.Pairwise.nil
theorem of_names (L : List Lab) : ∀ p ∈ ofP [] L, nameP (by_ p.f0) = true := ofP_names L [] (fun p h => by simp at h)
end Go.Proofs.Ytielpefbgdilaaa.B
end

section
set_option linter.unusedVariables false
set_option linter.unusedSimpArgs false
namespace Go.Proofs.Ytielpefbgdilaaa.B
open Go.RowKit Go.Proofs.Ytielpefbgdilaaa.X Go.Proofs.YtielpefbgdilaaaW.PrintWords Go.Proofs.YtielpefbgdilaaaW.PrintLast

/-! ### bytes ahead of one of some -/
def upN (cs l : List UInt8) : Nat := (l.takeWhile fun b => !cs.contains b).length
theorem upN_nil (cs : List UInt8) : upN cs [] = 0 := rfl
theorem upN_cons (cs : List UInt8) (b : UInt8) (l : List UInt8) : upN cs (b :: l) = if cs.contains b = true then 0 else upN cs l + 1 := by
  unfold upN
  rw [List.takeWhile_cons]
  cases h : cs.contains b <;> simp
theorem upN_le (cs : List UInt8) : ∀ l : List UInt8, upN cs l ≤ l.length
  | [] => Nat.le_refl _
  | b :: l => by
    have := upN_le cs l
    rw [upN_cons, List.length_cons]
    split <;> omega
theorem idx_up (cs : List UInt8) : ∀ l : List UInt8, Lib.indexAny l cs = if upN cs l = l.length then -1 else (upN cs l : Int)
  | [] => rfl
  | b :: l => by
    have ih := idx_up cs l
    have hle := upN_le cs l
    rw [Lib.indexAny, upN_cons]
    by_cases hc : cs.contains b = true
    · rw [if_pos hc, if_pos hc, if_neg (by simp)]
      rfl
    · rw [if_neg hc, if_neg hc, ih, List.length_cons]
      by_cases he : upN cs l = l.length
      · rw [if_pos he, if_pos (by rfl), if_pos (by omega)]
      · rw [if_neg he, if_neg (by rw [beq_iff_eq]; omega), if_neg (by omega)]
        omega
theorem idx_to (cs l : List UInt8) : (if Lib.indexAny l cs < 0 then (l.length : Int) else Lib.indexAny l cs) = (upN cs l : Int) := by
  have hle := upN_le cs l
  rw [idx_up]
  by_cases he : upN cs l = l.length
  · rw [if_pos he, if_pos (by omega), he]
  · rw [if_neg he, if_neg (by omega)]
theorem idx_le (cs l : List UInt8) : Lib.indexAny l cs ≤ (l.length : Int) := by
  have hle := upN_le cs l
  rw [idx_up]
  split <;> omega
theorem idx_zero (cs l : List UInt8) (h : l ≠ []) : Lib.indexAny l cs = 0 ↔ upN cs l = 0 := by
  have hle := upN_le cs l
  have hp := List.length_pos_iff.2 h
  rw [idx_up]
  split <;> omega
/-! ### one field -/
def seps : List UInt8 := [32, 9, 10, 61, 34]
def sps : List UInt8 := [32, 9, 10]
def addL (l : List Lab) (n v : List UInt8) : List Lab := if nameP n = true ∧ v.length ≤ 256 then l ++ [⟨⟨n.toArray⟩, ⟨v.toArray⟩⟩] else l
def valL (n q : List UInt8) (l : List Lab) : List UInt8 × List Lab := match getP q with
  | some r => (q.drop r.2, addL l n r.1)
  | none => (q.drop (upN sps q), addL l n (q.take (upN sps q)))
def fieldL (t : List UInt8) (l : List Lab) : List UInt8 × List Lab :=
  if upN seps t = 0 then (t.drop 1, l)
  else if (t.drop (upN seps t)).head? = some 61 then valL (t.take (upN seps t)) (t.drop (upN seps t + 1)) l
  else (t.drop (upN seps t), addL l (t.take (upN seps t)) [])
def okF (p : Lab) : Prop := nameP (by_ p.f0) = true ∧ p.f1.size ≤ 256
def Asc (t : List UInt8) : Prop := ∀ b ∈ t, b.toNat < 256
theorem valL_drop (n q : List UInt8) (l : List Lab) : ∃ m, (valL n q l).1 = q.drop m := by
  unfold valL
  split
  · exact ⟨_, rfl⟩
  · exact ⟨_, rfl⟩
theorem fieldL_drop (t : List UInt8) (l : List Lab) : ∃ m, 1 ≤ m ∧ (fieldL t l).1 = t.drop m := by
  unfold fieldL
  by_cases h0 : upN seps t = 0
  · rw [if_pos h0]
    exact ⟨1, Nat.le_refl _, rfl⟩
  · rw [if_neg h0]
    split
    · obtain ⟨m, hm⟩ := valL_drop (t.take (upN seps t)) (t.drop (upN seps t + 1)) l
      exact ⟨upN seps t + 1 + m, by omega, by rw [hm, List.drop_drop]⟩
    · exact ⟨upN seps t, by omega, rfl⟩
theorem fieldL_len {t : List UInt8} (h : t ≠ []) (l : List Lab) : (fieldL t l).1.length < t.length := by
  obtain ⟨m, h1, h2⟩ := fieldL_drop t l
  have := List.length_pos_iff.2 h
  rw [h2, List.length_drop]
  omega
theorem fieldL_asc {t : List UInt8} (h : Asc t) (l : List Lab) : Asc (fieldL t l).1 := by
  obtain ⟨m, _, h2⟩ := fieldL_drop t l
  rw [h2]
  exact fun b hb => h b (List.mem_of_mem_drop hb)
theorem addL_is (l : List Lab) (n v : List UInt8) : ∃ x, addL l n v = l ++ x ∧ x.length ≤ 1 ∧ ∀ p ∈ x, okF p := by
  unfold addL
  by_cases h : nameP n = true ∧ v.length ≤ 256
  · rw [if_pos h]
    refine ⟨_, rfl, Nat.le_refl _, fun p hp => ?_⟩
    rw [List.mem_singleton] at hp
    subst hp
    exact ⟨by rw [by_mk]; exact h.1, by rw [← by_length, by_mk]; exact h.2⟩
  · rw [if_neg h]
    exact ⟨[], by simp, by simp, by simp⟩
theorem fieldL_lab (t : List UInt8) (l : List Lab) : ∃ x, (fieldL t l).2 = l ++ x ∧ x.length ≤ 1 ∧ ∀ p ∈ x, okF p := by
  unfold fieldL
  split
  · exact ⟨[], by simp, by simp, by simp⟩
  · split
    · unfold valL
      split
      · exact addL_is _ _ _
      · exact addL_is _ _ _
    · exact addL_is _ _ _

/-! ### all fields -/
def allW (t : List UInt8) (l : List Lab) : List Lab :=
  if h : t = [] then l else if l.length < 64 then allW (fieldL t l).1 (fieldL t l).2 else l
termination_by t.length
decreasing_by exact fieldL_len h l
theorem allW_nil (l : List Lab) : allW [] l = l := by
  unfold allW
  rw [dif_pos rfl]
theorem allW_full (t : List UInt8) (l : List Lab) (h : ¬ l.length < 64) : allW t l = l := by
  unfold allW
  by_cases ht : t = []
  · rw [dif_pos ht]
  · rw [dif_neg ht, if_neg h]
theorem allW_step {t : List UInt8} (h : t ≠ []) {l : List Lab} (hl : l.length < 64) : allW t l = allW (fieldL t l).1 (fieldL t l).2 := by
  conv => lhs; unfold allW
  rw [dif_neg h, if_pos hl]
theorem allW_lab : ∀ (d : Nat) (t : List UInt8) (l : List Lab), t.length ≤ d → l.length ≤ 64 → ∃ x, allW t l = l ++ x ∧ (allW t l).length ≤ 64 ∧ ∀ p ∈ x, okF p := by
  intro d
  induction d with
  | zero =>
    intro t l hd hl
    obtain rfl := List.eq_nil_of_length_eq_zero (Nat.le_zero.1 hd)
    rw [allW_nil]
    exact ⟨[], by simp, hl, by simp⟩
  | succ d ih =>
    intro t l hd hl
    by_cases ht : t = []
    · subst ht
      rw [allW_nil]
      exact ⟨[], by simp, hl, by simp⟩
    by_cases h64 : l.length < 64
    · rw [allW_step ht h64]
      have hlt := fieldL_len ht l
      obtain ⟨x, hx, hx1, hxo⟩ := fieldL_lab t l
      obtain ⟨y, hy, hy1, hyo⟩ := ih (fieldL t l).1 (fieldL t l).2 (by omega) (by rw [hx, List.length_append]; omega)
      refine ⟨x ++ y, ?_, hy1, fun p hp => ?_⟩
      · rw [hy, hx, List.append_assoc]
      · rcases List.mem_append.1 hp with h | h
        · exact hxo p h
        · exact hyo p h
    · rw [allW_full t l h64]
      exact ⟨[], by simp, hl, by simp⟩

/-! ### what was put is told -/
def fieldB (p : Lab) : List UInt8 := by_ p.f0 ++ 61 :: putP (by_ p.f1)
def sufF (l : List Lab) : List UInt8 := l.flatMap fun p => 32 :: fieldB p
def putF : List Lab → List UInt8
  | [] => []
  | p :: ps => fieldB p ++ sufF ps
/-! ### the walk's answers are these -/
theorem ba_of (s : ByteArray) (l : List UInt8) (h : by_ s = l) : s = ⟨l.toArray⟩ := by_ext (by rw [h, by_mk])
theorem any_f (s cs : ByteArray) (hs : s.size < 4294967281) (hc : cs.size < 4294967281) (h2 : 2 ≤ cs.size) (hac : cs.data.toList.all (fun b => decide (b.toNat < 128)) = true) : strings_IndexAny.f s cs = some (Lib.indexAny (by_ s) (by_ cs)) := by
  unfold strings_IndexAny.f
  rw [if_pos ⟨hs, hc, h2, hac⟩]
  rfl
theorem asc_any (t : List UInt8) : Asc t := fun b _ => b.toNat_lt
theorem last_ev (l : List Lab) (n v r : ByteArray) : Ev (fun k => logfmt_scanner_field.last k l n v r) (r, addL l (by_ n) (by_ v)) := by
  unfold logfmt_scanner_field.last
  refine Ev.bind (name_ev n) (Ev.ret ?_)
  unfold addL
  rw [by_length]
  by_cases h : nameP (by_ n) = true ∧ v.size ≤ 256
  · rw [if_pos h, if_pos ⟨h.1, by have := h.2; omega⟩, ← ba_of n _ rfl, ← ba_of v _ rfl]
  · rw [if_neg h, if_neg (fun e => h ⟨e.1, by have := e.2; omega⟩)]
def resF (x : List UInt8 × List Lab) : ByteArray × List Lab := (⟨x.1.toArray⟩, x.2)
theorem val_ev (l : List Lab) (n q : ByteArray) (hq : q.size < 4294967281) (ha : Asc (by_ q)) : Ev (fun k => logfmt_scanner_field.val k l n q) (resF (valL (by_ n) (by_ q) l)) := by
  have hz := by_length q
  unfold logfmt_scanner_field.val
  refine Ev.bind (get_ev q (by omega)) ?_
  unfold valL
  cases hg : getP (by_ q) with
  | some r =>
    obtain ⟨v, m⟩ := r
    have hm := getP_len' hg
    refine Ev.pos rfl (Ev.pos ⟨?_, ?_⟩ ?_)
    · simp only [getI]
      omega
    · simp only [getI]
      omega
    · have h := last_ev l n ⟨v.toArray⟩ (q.extract (m : Int).toNat q.size)
      have e1 : q.extract (m : Int).toNat q.size = ⟨((by_ q).drop m).toArray⟩ := ba_of _ _ (by rw [by_extract, Int.toNat_natCast, List.take_of_length_le (by omega)])
      have e2 : by_ (⟨v.toArray⟩ : ByteArray) = v := by rw [by_mk]
      rw [e1, e2] at h
      simp only [getI, resF]
      rw [e1]
      exact h
  | none =>
    refine Ev.neg (by simp [getI]) ?_
    rw [any_f q ⟨#[32, 9, 10]⟩ hq (by decide) (by decide) (by decide)]
    refine Ev.one (Ev.pos (by have := idx_le (by_ ⟨#[32, 9, 10]⟩) (by_ q); rw [hz] at this; exact this) ?_)
    have e := idx_to (by_ ⟨#[32, 9, 10]⟩) (by_ q)
    have e9 : by_ (⟨#[32, 9, 10]⟩ : ByteArray) = sps := rfl
    rw [e9] at e ⊢
    rw [hz] at e
    rw [e, Int.toNat_natCast]
    have hu := upN_le sps (by_ q)
    have h := last_ev l n (q.extract 0 (upN sps (by_ q))) (q.extract (upN sps (by_ q)) q.size)
    rw [ba_of (q.extract (upN sps (by_ q)) q.size) ((by_ q).drop (upN sps (by_ q))) (by rw [by_extract, List.take_of_length_le (by omega)]), show by_ (q.extract 0 (upN sps (by_ q))) = (by_ q).take (upN sps (by_ q)) by rw [by_extract, List.drop_zero]] at h
    rw [ba_of (q.extract (upN sps (by_ q)) q.size) ((by_ q).drop (upN sps (by_ q))) (by rw [by_extract, List.take_of_length_le (by omega)])]
    exact h
theorem field_ev (s : ByteArray) (l : List Lab) (hs : s.size < 4294967281) (ha : Asc (by_ s)) (hne : by_ s ≠ []) (hl : l.length ≤ 64) : Ev (fun k => logfmt_scanner_field.f k s l) (resF (fieldL (by_ s) l)) := by
  have hz := by_length s
  have hp := List.length_pos_iff.2 hne
  unfold logfmt_scanner_field.f
  refine Ev.pos ⟨by omega, by omega⟩ ?_
  rw [any_f s ⟨#[32, 9, 10, 61, 34]⟩ hs (by decide) (by decide) (by decide)]
  refine Ev.one ?_
  have e := idx_to (by_ ⟨#[32, 9, 10, 61, 34]⟩) (by_ s)
  have e1 : by_ (⟨#[32, 9, 10, 61, 34]⟩ : ByteArray) = seps := rfl
  rw [e1] at e ⊢
  have h0 := idx_zero seps (by_ s) hne
  have hle := idx_le seps (by_ s)
  rw [hz] at e hle
  have hu := upN_le seps (by_ s)
  unfold fieldL
  by_cases c0 : upN seps (by_ s) = 0
  · rw [if_pos c0]
    refine Ev.pos (h0.2 c0) (Ev.ret ?_)
    unfold resF
    rw [← ba_of (s.extract 1 s.size) ((by_ s).drop 1) (by rw [by_extract, List.take_of_length_le (by omega)])]
  · rw [if_neg c0]
    refine Ev.neg (fun h => c0 (h0.1 h)) ?_
    rw [e, Int.toNat_natCast]
    obtain ⟨m, hm⟩ : ∃ m, m = upN seps (by_ s) := ⟨_, rfl⟩
    rw [← hm] at c0 hu ⊢
    have en : by_ (s.extract 0 m) = (by_ s).take m := by rw [by_extract, List.drop_zero]
    have er : by_ (s.extract m s.size) = (by_ s).drop m := by rw [by_extract, List.take_of_length_le (by omega)]
    have hrs : (s.extract m s.size).size = s.size - m := by rw [← by_length, er, List.length_drop, hz]
    refine Ev.pos ⟨hle, ?_⟩ ?_
    · rw [toList_by, en, beq_eq_false_iff_ne]
      intro h
      have := congrArg List.length h
      rw [List.length_take, List.length_nil] at this
      omega
    rw [pfx_f]
    refine Ev.one ?_
    have e2 : by_ (⟨#[61]⟩ : ByteArray) = [61] := rfl
    rw [e2, er]
    have hhead : pfxP [61] ((by_ s).drop m) = true ↔ ((by_ s).drop m).head? = some 61 := by
      unfold pfxP
      cases (by_ s).drop m with
      | nil => simp
      | cons b r => simp
    by_cases ch : ((by_ s).drop m).head? = some 61
    · rw [if_pos ch]
      have hlt : m < s.size := by
        rcases Nat.lt_or_ge m s.size with h | h
        · exact h
        · rw [List.drop_of_length_le (by omega)] at ch
          simp at ch
      refine Ev.pos (hhead.2 ch) (Ev.pos (by omega) ?_)
      have eq_ : by_ ((s.extract m s.size).extract 1 (s.extract m s.size).size) = (by_ s).drop (m + 1) := by
        rw [by_extract, List.take_of_length_le (by rw [by_length]; exact Nat.le_refl _), er, List.drop_drop]
      have h := val_ev l (s.extract 0 m) ((s.extract m s.size).extract 1 (s.extract m s.size).size) (by rw [← by_length, eq_, List.length_drop]; omega) (by rw [eq_]; exact fun b hb => ha b (List.mem_of_mem_drop hb))
      rw [en, eq_] at h
      exact h
    · rw [if_neg ch]
      refine Ev.neg (fun h => ch (hhead.1 h)) ?_
      have h := last_ev l (s.extract 0 m) ⟨#[]⟩ (s.extract m s.size)
      rw [en, ba_of (s.extract m s.size) _ er] at h
      rw [ba_of (s.extract m s.size) _ er]
      exact h
theorem all_loop : ∀ (d : Nat) (s : ByteArray) (l : List Lab), s.size ≤ d → s.size < 4294967281 → Asc (by_ s) → l.length ≤ 64 → Ev (fun k => logfmt_All.l0 k s l) (allW (by_ s) l) := by
  intro d
  induction d with
  | zero =>
    intro s l hd hs ha hl
    have hz := by_length s
    have h0 : by_ s = [] := List.eq_nil_of_length_eq_zero (by omega)
    refine Ev.step (fun _ => rfl) ?_
    simp only [logfmt_All.l0]
    rw [toList_by, h0, allW_nil]
    exact Ev.pos rfl (Ev.now _)
  | succ d ih =>
    intro s l hd hs ha hl
    have hz := by_length s
    refine Ev.step (fun _ => rfl) ?_
    simp only [logfmt_All.l0]
    rw [toList_by]
    by_cases h0 : by_ s = []
    · rw [h0, allW_nil]
      exact Ev.pos rfl (Ev.now _)
    refine Ev.neg h0 ?_
    by_cases h64 : l.length < 64
    · refine Ev.pos (by omega) (Ev.bind (field_ev s l hs ha h0 hl) ?_)
      rw [allW_step h0 h64]
      have hlt := fieldL_len h0 l
      obtain ⟨x, hx, hx1, _⟩ := fieldL_lab (by_ s) l
      have hsz : (resF (fieldL (by_ s) l)).1.size = (fieldL (by_ s) l).1.length := by rw [← by_length]; unfold resF; rw [by_mk]
      have h := ih (resF (fieldL (by_ s) l)).1 (fieldL (by_ s) l).2 (by omega) (by omega) (by unfold resF; rw [by_mk]; exact fieldL_asc ha l) (by rw [hx, List.length_append]; omega)
      rw [show by_ (resF (fieldL (by_ s) l)).1 = (fieldL (by_ s) l).1 by unfold resF; rw [by_mk]] at h
      exact h
    · rw [allW_full _ _ h64]
      exact Ev.neg (by omega) (Ev.now _)
theorem all_ev (s : ByteArray) (hs : s.size < 4294967281) (ha : Asc (by_ s)) : Ev (fun k => logfmt_All.f k s) (allW (by_ s) []) :=
  all_loop s.size s [] (Nat.le_refl _) hs ha (by simp)
end Go.Proofs.Ytielpefbgdilaaa.B
end

section
set_option linter.unusedVariables false
set_option linter.unusedSimpArgs false
namespace Go.Proofs.Ytielpefbgdilaaa.B
open Go.RowKit Go.Proofs.Ytielpefbgdilaaa.X Go.Proofs.YtielpefbgdilaaaW.PrintWords Go.Proofs.YtielpefbgdilaaaW.PrintLast

set_option maxRecDepth 100000 in
theorem examples10_ev : Ev (fun k => archivistlaw10_examples.f k) true :=
  Ev.of (k := 80) (fun k => archivistlaw10_examples.mono k) (by kernel_rfl)
/-! ### Put -/
theorem fieldB_len (p : Lab) : (fieldB p).length ≤ p.f0.size + 1 + (4 * p.f1.size + 2) := by
  unfold fieldB
  rw [List.length_append, List.length_cons, by_length, putP_len]
  have := (flat_len (by_ p.f1)).2
  rw [by_length] at this
  omega
theorem sufF_len (c : Nat) : ∀ ps : List Lab, (∀ p ∈ ps, (fieldB p).length ≤ c) → (sufF ps).length ≤ ps.length * (c + 1)
  | [], _ => by simp [sufF]
  | p :: ps, h => by
    have h1 := h p (by simp)
    have h2 := sufF_len c ps (fun q hq => h q (by simp [hq]))
    have e : sufF (p :: ps) = 32 :: (fieldB p ++ sufF ps) := by simp [sufF]
    rw [e, List.length_cons, List.length_append, List.length_cons, Nat.add_mul]
    omega
theorem putF_len (c : Nat) (ps : List Lab) (h : ∀ p ∈ ps, (fieldB p).length ≤ c) : (putF ps).length ≤ ps.length * (c + 1) := by
  cases ps with
  | nil => simp [putF]
  | cons p ps =>
    have h1 := h p (by simp)
    have h2 := sufF_len c ps (fun q hq => h q (by simp [hq]))
    rw [putF, List.length_append, List.length_cons, Nat.add_mul]
    omega
theorem joinF : ∀ (ps : List Lab) (p : Lab), joinP [32] ((p :: ps).map fieldB) = fieldB p ++ sufF ps
  | [], p => by simp [joinP_one, sufF]
  | q :: ps, p => by
    rw [List.map_cons, List.map_cons, joinP_cons, ← List.map_cons, joinF ps q]
    simp [sufF]
theorem joinF_put (ps : List Lab) : joinP [32] (ps.map fieldB) = putF ps := by
  cases ps with
  | nil => simp [joinP_nil, putF]
  | cons p ps => rw [joinF, putF]
theorem put_loopF (ps : List Lab) (hl : ps.length ≤ 1000) (hz : ∀ p ∈ ps, p.f0.size ≤ 1048576 ∧ p.f1.size ≤ 1048576) : ∀ (d i : Nat) (acc : List ByteArray), ps.length - i = d → i ≤ ps.length → acc.length = i → acc.map by_ = (ps.take i).map fieldB →
    Ev (fun k => logfmt_Put.l0 k acc ps (ps.length : Int) (i : Int)) ⟨(putF ps).toArray⟩ := by
  intro d
  induction d with
  | zero =>
    intro i acc hd hi hal ha
    refine Ev.step (fun _ => rfl) ?_
    simp only [logfmt_Put.l0]
    refine Ev.neg (by omega) ?_
    rw [List.take_of_length_le (by omega)] at ha
    have e : joinP (by_ (⟨#[32]⟩ : ByteArray)) (acc.map by_) = putF ps := by rw [ha]; exact joinF_put ps
    have hlen := putF_len 10000000 ps (fun p hp => by have := fieldB_len p; have := hz p hp; omega)
    have hmul : ps.length * (10000000 + 1) ≤ 1000 * (10000000 + 1) := Nat.mul_le_mul_right _ hl
    rw [join_f _ _ (by omega) (by rw [e]; omega), e]
    exact Ev.one (Ev.now _)
  | succ d ih =>
    intro i acc hd hi hal ha
    have hlt : i < ps.length := by omega
    have hp := hz ps[i] (List.getElem_mem hlt)
    have hb := fieldB_len ps[i]
    refine Ev.step (fun _ => rfl) ?_
    simp only [logfmt_Put.l0]
    rw [rdLab ps i hlt, w1 i (by omega)]
    refine Ev.pos (by omega) (Ev.pos (by omega) (Ev.pos (by omega) (Ev.pos (by omega) ?_)))
    refine Ev.bind (put_ev ps[i].f1 (SmallN.of (by omega))) ?_
    have hps : (⟨(putP (by_ ps[i].f1)).toArray⟩ : ByteArray).size = (putP (by_ ps[i].f1)).length := by rw [← by_length, by_mk]
    have hpl : (putP (by_ ps[i].f1)).length ≤ 4 * ps[i].f1.size + 2 := by
      have := (flat_len (by_ ps[i].f1)).2
      rw [by_length] at this
      rw [putP_len]
      omega
    refine Ev.pos ?_ (Ev.pos (by omega) (ih (i + 1) _ (by omega) (by omega) (by rw [List.length_append, hal]; rfl) ?_))
    · rw [ByteArray.size_append, hps]
      have : (⟨#[61]⟩ : ByteArray).size = 1 := rfl
      omega
    · rw [List.map_append, ha, List.take_succ_eq_append_getElem hlt, List.map_append]
      congr 1
      simp only [List.map_cons, List.map_nil, by_append, by_mk]
      unfold fieldB
      rw [by_lit]
      simp
theorem putF_ev (ps : List Lab) (hl : ps.length ≤ 1000) (hz : ∀ p ∈ ps, p.f0.size ≤ 1048576 ∧ p.f1.size ≤ 1048576) : Ev (fun k => logfmt_Put.f k ps) ⟨(putF ps).toArray⟩ :=
  put_loopF ps hl hz ps.length 0 [] rfl (Nat.zero_le _) rfl rfl
/-! ### what was put is of ASCII bytes -/
theorem Asc.app {s t : List UInt8} (hs : Asc s) (ht : Asc t) : Asc (s ++ t) := fun b hb => (List.mem_append.1 hb).elim (hs b) (ht b)
theorem Asc.nil : Asc [] := fun b hb => by simp at hb
/-! ### Of -/
def ofW (t : List UInt8) : List Lab := (ofP [] (allW t []).reverse).take 16
theorem all_ok (t : List UInt8) : (allW t []).length ≤ 64 ∧ ∀ p ∈ allW t [], okF p := by
  obtain ⟨x, hx, h64, hok⟩ := allW_lab _ t [] (Nat.le_refl _) (by simp)
  rw [List.nil_append] at hx
  exact ⟨h64, by rw [hx]; exact hok⟩
theorem of10_ev (s : ByteArray) (hs : s.size < 4294967281) (ha : Asc (by_ s)) : Ev (fun k => logfmt_Of.f k s) (ofW (by_ s)) := by
  have h64 := (all_ok (by_ s)).1
  unfold logfmt_Of.f
  refine Ev.bind (all_ev s hs ha) ?_
  have e : ∀ k, label_Pair_29.f k (allW (by_ s) []) = some (allW (by_ s) []).reverse := fun k => by unfold label_Pair_29.f; rw [if_pos (by omega)]
  refine Ev.bind (Ev.congr e (Ev.now _)) (Ev.bind (of_ev _ (by rw [List.length_reverse]; omega)) ?_)
  unfold ofW mn
  by_cases h : (16 : Int) < ((ofP [] (allW (by_ s) []).reverse).length : Int)
  · rw [if_pos h]
    exact Ev.pos (by omega) (Ev.pos (by omega) (Ev.ret rfl))
  · rw [if_neg h]
    refine Ev.pos (by omega) (Ev.pos (by omega) (Ev.ret ?_))
    rw [Int.toNat_natCast, List.take_of_length_le (Nat.le_refl _), List.take_of_length_le (by omega)]
theorem ofP_all (Q : Lab → Prop) : ∀ (L l : List Lab), (∀ p ∈ l, Q p) → (∀ p ∈ L, Q p) → ∀ p ∈ ofP l L, Q p
  | [], l, hl, _ => hl
  | q :: L, l, hl, hL => by
    have hq := hL q (by simp)
    have hrec := ofP_all Q L (if nameP (by_ q.f0) = true then stepP l q else l) (fun p hp => by
      split at hp
      · rcases stepP_mem l q p hp with rfl | h
        · exact hq
        · exact hl p h
      · exact hl p hp) (fun p hp => hL p (by simp [hp]))
    exact hrec
theorem steps_rise : ∀ (l : List Lab), (∀ p ∈ l, okL p = true) → Rise l → stepsB none l = true := by
  have h : ∀ (l : List Lab) (q : Lab), (∀ p ∈ l, okL p = true) → Rise (q :: l) → stepsB (some q) l = true := by
    intro l
    induction l with
    | nil => intro q _ _; rfl
    | cons p l ih =>
      intro q h1 h2
      obtain ⟨h3, h4⟩ := rise_cons h2
      simp only [stepsB, Bool.and_eq_true, decide_eq_true_eq]
      exact ⟨h1 p (by simp), h3 p (by simp), ih p (fun x hx => h1 x (by simp [hx])) h4⟩
  intro l h1 h2
  cases l with
  | nil => rfl
  | cons p l =>
    simp only [stepsB, Bool.and_eq_true]
    exact ⟨h1 p (by simp), h l p (fun x hx => h1 x (by simp [hx])) h2⟩
theorem ofW_right (t : List UInt8) : rightL (ofW t) = true ∧ (ofW t).length ≤ 16 := by
  have hr : Rise (ofW t) := List.Pairwise.sublist (List.take_sublist _ _) (of_rise _)
  have hn : ∀ p ∈ ofW t, okL p = true := fun p hp => by
    have h1 := of_names _ p (List.mem_of_mem_take hp)
    have h2 := ofP_all (fun q => q.f1.size ≤ 256) (allW t []).reverse [] (by simp) (fun q hq => ((all_ok t).2 q (List.mem_reverse.1 hq)).2) p (List.mem_of_mem_take hp)
    unfold okL
    rw [h1, decide_eq_true h2]
    rfl
  have hlen : (ofW t).length ≤ 16 := by unfold ofW; rw [List.length_take]; omega
  unfold rightL
  rw [steps_rise _ hn hr, decide_eq_true hlen]
  exact ⟨rfl, hlen⟩
/-! ### lines of fields -/
def lineP : List ByteArray := [⟨#[97, 112, 112, 61, 97]⟩, ⟨#[108, 118, 108, 61, 98]⟩, ⟨#[110, 61, 55]⟩, ⟨#[100, 117, 114, 61, 53, 109]⟩, ⟨#[32]⟩, ⟨#[61]⟩, ⟨#[34]⟩, ⟨#[97]⟩, ⟨#[120, 61, 34, 113, 32, 114, 34]⟩, ⟨#[120, 61, 34]⟩, ⟨#[57, 61, 49]⟩, ⟨#[95, 98, 61]⟩, ⟨#[9]⟩, ⟨#[92]⟩, ⟨#[115, 105, 122, 101, 61, 50, 75, 66]⟩, ⟨#[110, 61, 56]⟩, ⟨#[61, 61]⟩]
theorem lineP_ok : ∀ m : Fin 17, (rdOf ByteArray.empty lineP (m.val : Int)).size ≤ 8 ∧ (by_ (rdOf ByteArray.empty lineP (m.val : Int))).all (fun b => decide (b.toNat < 256)) = true := by decide +kernel
theorem line_loop (l : List Int) (hg : ∀ y ∈ l, 0 ≤ y ∧ y < 256) : ∀ (d i : Nat) (acc : ByteArray), 40 - i = d → i ≤ 40 → acc.size ≤ 9 * i → Asc (by_ acc) →
    ∃ L : ByteArray, L.size ≤ 360 ∧ Asc (by_ L) ∧ Ev (fun k => archivistlaw10_line.l0 k l lineP acc (i : Int)) L := by
  have stop : ∀ (i : Nat) (acc : ByteArray), i ≤ 40 → acc.size ≤ 9 * i → Asc (by_ acc) → ∃ L : ByteArray, L.size ≤ 360 ∧ Asc (by_ L) ∧ Ev (fun k => archivistlaw10_line.j1 k l lineP acc (i : Int) false) L := by
    intro i acc hi hz ha
    refine ⟨acc, by omega, ha, Ev.step (fun _ => rfl) ?_⟩
    simp only [archivistlaw10_line.j1]
    exact Ev.neg (by simp) (Ev.now _)
  intro d
  induction d with
  | zero =>
    intro i acc hd hi hz ha
    obtain ⟨L, h1, h2, h3⟩ := stop i acc hi hz ha
    refine ⟨L, h1, h2, Ev.step (fun _ => rfl) ?_⟩
    simp only [archivistlaw10_line.l0]
    rw [decide_eq_false (show ¬ (i : Int) < 40 by omega)]
    by_cases h : (i : Int) < (l.length : Int)
    · exact Ev.pos h h3
    · exact Ev.neg h h3
  | succ d ih =>
    intro i acc hd hi hz ha
    by_cases h : i < l.length
    · have hy := hg l[i] (List.getElem_mem h)
      have hrd : rd l (i : Int) = l[i] := by simp [rd, List.getD_eq_getElem?_getD, h]
      obtain ⟨y, hye⟩ : ∃ y : Nat, l[i] = (y : Int) := ⟨l[i].toNat, by omega⟩
      have hm : Int.tmod (l[i]) 17 = ((y % 17 : Nat) : Int) := by rw [hye]; rfl
      obtain ⟨p1, p2⟩ := lineP_ok ⟨y % 17, Nat.mod_lt _ (by decide)⟩
      have hpa : Asc (by_ (rdOf ByteArray.empty lineP ((y % 17 : Nat) : Int))) := fun b hb => of_decide_eq_true (List.all_eq_true.1 p2 b hb)
      have hlen : lineP.length = 17 := rfl
      have hmlt := Nat.mod_lt y (show 17 > 0 by decide)
      obtain ⟨P, hP⟩ : ∃ P, rdOf ByteArray.empty lineP ((y % 17 : Nat) : Int) = P := ⟨_, rfl⟩
      simp only [hP] at p1 hpa
      have s1 : (acc ++ P).size ≤ 9 * i + 8 := by rw [ByteArray.size_append]; omega
      have a1 : Asc (by_ (acc ++ P)) := by rw [by_append]; exact Asc.app ha hpa
      have s2 : ((acc ++ P) ++ (⟨#[32]⟩ : ByteArray)).size ≤ 9 * (i + 1) := by rw [ByteArray.size_append]; have : (⟨#[32]⟩ : ByteArray).size = 1 := rfl; omega
      have a2 : Asc (by_ ((acc ++ P) ++ (⟨#[32]⟩ : ByteArray))) := by rw [by_append]; exact Asc.app a1 (by unfold Asc; decide)
      have hcommon : ∀ L, Ev (fun k => if l[i] < 170 then (if (acc ++ P).size + 1 ≤ 9223372036854775807 then archivistlaw10_line.l0 k l lineP ((acc ++ P) ++ (⟨#[32]⟩ : ByteArray)) ((i + 1 : Nat) : Int) else none) else archivistlaw10_line.l0 k l lineP (acc ++ P) ((i + 1 : Nat) : Int)) L →
          Ev (fun k => archivistlaw10_line.l0 k l lineP acc (i : Int)) L := by
        intro L hL
        refine Ev.step (fun _ => rfl) ?_
        simp only [archivistlaw10_line.l0]
        refine Ev.pos (by omega) ?_
        rw [decide_eq_true (show (i : Int) < 40 by omega)]
        refine Ev.step (fun _ => rfl) ?_
        simp only [archivistlaw10_line.j1]
        rw [hrd, hm, hP, w1 i (by omega)]
        exact Ev.pos (by first | trivial | rfl) (Ev.pos (by omega) (Ev.pos (by omega) (Ev.pos (by omega) (Ev.pos (by rw [hlen]; omega) (Ev.pos (by omega) hL)))))
      by_cases h170 : l[i] < 170
      · obtain ⟨L, h1, h2, h3⟩ := ih (i + 1) _ (by omega) (by omega) s2 a2
        exact ⟨L, h1, h2, hcommon L (Ev.pos h170 (Ev.pos (by omega) h3))⟩
      · obtain ⟨L, h1, h2, h3⟩ := ih (i + 1) _ (by omega) (by omega) (by omega) a1
        exact ⟨L, h1, h2, hcommon L (Ev.neg h170 h3)⟩
    · obtain ⟨L, h1, h2, h3⟩ := stop i acc hi hz ha
      refine ⟨L, h1, h2, Ev.step (fun _ => rfl) ?_⟩
      simp only [archivistlaw10_line.l0]
      exact Ev.neg (by omega) h3
theorem line_ev (l : List Int) (hg : ∀ y ∈ l, (Lit.int .u8 y).wf = true) : ∃ L : ByteArray, L.size ≤ 360 ∧ Asc (by_ L) ∧ Ev (fun k => archivistlaw10_line.f k l) L :=
  line_loop l (fun y hy => by have := hg y hy; simp [Lit.wf, IntKind.min, IntKind.max, IntKind.bits, IntKind.signed] at this; omega) 40 0 ⟨#[]⟩ rfl (Nat.zero_le _) (by decide) (by unfold Asc; decide)
end Go.Proofs.Ytielpefbgdilaaa.B
end
