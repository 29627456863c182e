/-
  What quote.Get answers, in plain lists of bytes, for the seat Ytbkhgldinmabiaa: at every text, from some number of rounds on.
-/
import Derived.Test.YtbkhgldinmabiaaX13
import Derived.Test.YtbkhgldinmabiaaB
set_option linter.unusedVariables false
set_option linter.unusedSimpArgs false
namespace Go.Proofs.Ytbkhgldinmabiaa.B
open Go.RowKit Go.Proofs.Ytbkhgldinmabiaa.X Go.Proofs.YtbkhgldinmabiaaW.PrintWords Go.Proofs.YtbkhgldinmabiaaW.PrintLast

/-! ### what stands behind an escape -/
def hexd : List UInt8 := [48, 49, 50, 51, 52, 53, 54, 55, 56, 57, 97, 98, 99, 100, 101, 102]
/-- the place of a byte among some; -1: it is none -/
def hexv (c : UInt8) : Int := Lib.indexByte hexd c
theorem hexv_range (c : UInt8) : -1 ≤ hexv c ∧ hexv c ≤ 15 := by
  have h : ∀ n : Fin 256, -1 ≤ hexv (UInt8.ofNat n.val) ∧ hexv (UInt8.ofNat n.val) ≤ 15 := by decide +kernel
  have := h ⟨c.toNat, c.toNat_lt⟩
  simpa using this
theorem or_hex (h g : Int) (h0 : 0 ≤ h) (h1 : h ≤ 15) (g0 : 0 ≤ g) (g1 : g ≤ 15) : (Go.bits .or .i64 (wrap64 (h * 16)) g) % 256 = h * 16 + g := by
  obtain ⟨a, rfl⟩ := Int.eq_ofNat_of_zero_le h0
  obtain ⟨b, rfl⟩ := Int.eq_ofNat_of_zero_le g0
  have k : ∀ x y : Fin 16, (Go.bits .or .i64 (wrap64 (((x.val : Nat) : Int) * 16)) ((y.val : Nat) : Int)) % 256 = ((x.val : Nat) : Int) * 16 + ((y.val : Nat) : Int) := by decide +kernel
  exact k ⟨a, by omega⟩ ⟨b, by omega⟩
/-- the byte that is told by an escape, and how many bytes that has -/
def escP : List UInt8 → Option (UInt8 × Nat)
  | [] => none
  | c :: l =>
    if c.toNat = 34 then some (c, 1) else if c.toNat = 92 then some (c, 1) else if c.toNat = 110 then some (10, 1) else if c.toNat = 116 then some (9, 1)
    else match l with
      | h :: g :: _ =>
        if c.toNat = 120 ∧ 0 ≤ hexv h ∧ 0 ≤ hexv g ∧ ¬ (32 ≤ hexv h * 16 + hexv g ∧ hexv h * 16 + hexv g ≤ 126) ∧ hexv h * 16 + hexv g ≠ 10 ∧ hexv h * 16 + hexv g ≠ 9 then some (UInt8.ofNat (hexv h * 16 + hexv g).toNat, 3)
        else none
      | _ => none
/-- as the program tells it -/
def escI (o : Option (UInt8 × Nat)) : Int × Int := match o with
  | some (b, n) => ((b.toNat : Int), (n : Int))
  | none => (0, 0)
theorem idx_hex (s : ByteArray) (i : Nat) (c : UInt8) (h : (by_ s)[i]? = some c) : strings_IndexByte.f (⟨#[48, 49, 50, 51, 52, 53, 54, 55, 56, 57, 97, 98, 99, 100, 101, 102]⟩ : ByteArray) (bt s i) = some (hexv c) := by
  obtain ⟨hl, e⟩ := List.getElem?_eq_some_iff.1 h
  have : bt s i = (c.toNat : Int) := by rw [bt_by s i hl, e]
  rw [this]
  unfold strings_IndexByte.f hexv hexd
  simp
theorem bt_at_ (s : ByteArray) (i : Nat) (c : UInt8) (h : (by_ s)[i]? = some c) : bt s i = (c.toNat : Int) := by
  obtain ⟨hl, e⟩ := List.getElem?_eq_some_iff.1 h
  rw [bt_by s i hl, e]
theorem escaped_ev (s : ByteArray) : Ev (fun k => quote_escaped.f k s) (escI (escP (by_ s))) := by
  have hz := by_length s
  unfold quote_escaped.f
  rw [toList_by]
  cases hs : by_ s with
  | nil => exact Ev.pos rfl (Ev.now _)
  | cons c l =>
    rw [hs] at hz
    simp only [List.length_cons] at hz
    have h0 : bt s 0 = (c.toNat : Int) := bt_at_ s 0 c (by rw [hs]; rfl)
    have hc := c.toNat_lt
    refine Ev.neg (by simp) (Ev.pos (by omega) ?_)
    rw [h0]
    have hj : ∀ b : Bool, b = (decide (c.toNat = 34 ∨ c.toNat = 92)) → Ev (fun k => quote_escaped.j0 k s (c.toNat : Int) b) (escI (escP (c :: l))) := by
      intro b hb
      refine Ev.step (fun _ => rfl) ?_
      simp only [quote_escaped.j0, escP]
      by_cases c1 : c.toNat = 34
      · rw [if_pos c1]
        refine Ev.pos (by rw [hb]; simp [c1]) (Ev.pos (by omega) ?_)
        rw [h0]
        exact Ev.now _
      rw [if_neg c1]
      by_cases c2 : c.toNat = 92
      · rw [if_pos c2]
        refine Ev.pos (by rw [hb]; simp [c2]) (Ev.pos (by omega) ?_)
        rw [h0]
        exact Ev.now _
      rw [if_neg c2]
      refine Ev.neg (by rw [hb]; simp [c1, c2]) ?_
      by_cases c3 : c.toNat = 110
      · rw [if_pos c3]
        exact Ev.pos (by omega) (Ev.now _)
      rw [if_neg c3]
      refine Ev.neg (by omega) ?_
      by_cases c4 : c.toNat = 116
      · rw [if_pos c4]
        exact Ev.pos (by omega) (Ev.now _)
      rw [if_neg c4]
      refine Ev.neg (by omega) ?_
      match l, hs, hz with
      | [], hs, hz => exact Ev.pos (by simp at hz; omega) (Ev.step (f := fun _ => some (0, 0)) (fun _ => by simp [quote_escaped.j1]) (Ev.now _))
      | [_], hs, hz => exact Ev.pos (by simp at hz; omega) (Ev.step (f := fun _ => some (0, 0)) (fun _ => by simp [quote_escaped.j1]) (Ev.now _))
      | h :: g :: r, hs, hz =>
        simp only [List.length_cons] at hz
        refine Ev.neg (by omega) (Ev.pos (by omega) ?_)
        rw [h0]
        refine Ev.step (fun _ => rfl) ?_
        simp only [quote_escaped.j1]
        by_cases c5 : c.toNat = 120
        · refine Ev.neg (by simp [c5]) (Ev.pos (by omega) ?_)
          have i1 := idx_hex s 1 h (by rw [hs]; rfl)
          have i2 := idx_hex s 2 g (by rw [hs]; rfl)
          refine Ev.congr (fun k => by rw [show (1 : Int) = ((1 : Nat) : Int) from rfl, i1, Option.bind_some]) (Ev.pos (by omega) (Ev.congr (fun k => by rw [show (2 : Int) = ((2 : Nat) : Int) from rfl, i2, Option.bind_some]) ?_))
          obtain ⟨hh0, hh1⟩ := hexv_range h
          obtain ⟨hg0, hg1⟩ := hexv_range g
          by_cases hcond : c.toNat = 120 ∧ 0 ≤ hexv h ∧ 0 ≤ hexv g ∧ ¬ (32 ≤ hexv h * 16 + hexv g ∧ hexv h * 16 + hexv g ≤ 126) ∧ hexv h * 16 + hexv g ≠ 10 ∧ hexv h * 16 + hexv g ≠ 9
          · rw [if_pos hcond]
            obtain ⟨_, n1, n2, n3, n4, n5⟩ := hcond
            refine Ev.neg (by omega) (Ev.neg (by omega) ?_)
            rw [or_hex _ _ (by omega) hh1 (by omega) hg1]
            have hw : (((UInt8.ofNat (hexv h * 16 + hexv g).toNat).toNat : Nat) : Int) = hexv h * 16 + hexv g := by
              rw [UInt8.toNat_ofNat']
              omega
            have hr : escI (some (UInt8.ofNat (hexv h * 16 + hexv g).toNat, 3)) = (hexv h * 16 + hexv g, 3) := by
              simp only [escI, hw]
              rfl
            rw [hr]
            by_cases n6 : hexv h * 16 + hexv g ≥ 32
            · exact Ev.pos n6 (Ev.neg (by omega) (Ev.neg n4 (Ev.neg n5 (Ev.now _))))
            · exact Ev.neg n6 (Ev.neg n4 (Ev.neg n5 (Ev.now _)))
          · rw [if_neg hcond]
            by_cases n1 : hexv h < 0
            · exact Ev.pos n1 (Ev.now _)
            refine Ev.neg n1 ?_
            by_cases n2 : hexv g < 0
            · exact Ev.pos n2 (Ev.now _)
            refine Ev.neg n2 ?_
            rw [or_hex _ _ (by omega) hh1 (by omega) hg1]
            by_cases n6 : hexv h * 16 + hexv g ≥ 32
            · refine Ev.pos n6 ?_
              by_cases n7 : hexv h * 16 + hexv g ≤ 126
              · exact Ev.pos n7 (Ev.now _)
              · exact absurd ⟨c5, by omega, by omega, by omega, by omega, by omega⟩ hcond
            · refine Ev.neg n6 ?_
              by_cases n7 : hexv h * 16 + hexv g = 10
              · exact Ev.pos n7 (Ev.now _)
              refine Ev.neg n7 ?_
              by_cases n8 : hexv h * 16 + hexv g = 9
              · exact Ev.pos n8 (Ev.now _)
              · exact absurd ⟨c5, by omega, by omega, by omega, n7, n8⟩ hcond
        · refine Ev.pos (by simp; omega) ?_
          rw [if_neg (by intro h; exact c5 h.1)]
          exact Ev.now _
    by_cases c1 : (c.toNat : Int) = 34
    · exact Ev.pos c1 (hj _ (by rw [Bool.eq_iff_iff]; simp; omega))
    · exact Ev.neg c1 (hj _ (by rw [Bool.eq_iff_iff]; simp; omega))
/-! ### a text in quotes -/
/-- the byte that stands at the begin of what is in quotes, and how many bytes tell it -/
def decP : List UInt8 → Option (UInt8 × Nat)
  | [] => none
  | c :: l => if c.toNat = 92 then (escP l).map fun r => (r.1, r.2 + 1) else if c.toNat < 32 ∨ 126 < c.toNat then none else some (c, 1)
/-- what stands up to the quote that ends it, and how many bytes that has, the quote with it -/
def unqP : List UInt8 → Option (List UInt8 × Nat)
  | [] => none
  | c :: l => if c.toNat = 34 then some ([], 1) else match decP (c :: l) with
    | none => none
    | some (b, n) => (unqP (l.drop (n - 1))).map fun r => (b :: r.1, r.2 + n)
termination_by l => l.length
decreasing_by simp; omega
def getP : List UInt8 → Option (List UInt8 × Nat)
  | [] => none
  | c :: l => if c.toNat = 34 then (unqP l).map fun r => (r.1, r.2 + 1) else none
/-- as the program tells it -/
def getI (o : Option (List UInt8 × Nat)) : ByteArray × Int × Bool := match o with
  | some (t, n) => (⟨t.toArray⟩, (n : Int), true)
  | none => (⟨#[]⟩, 0, false)
def up_ (l : List UInt8) : List Int := l.map fun b => (b.toNat : Int)
theorem nums_up (l : List UInt8) : strOfNums (up_ l) = ⟨l.toArray⟩ := by
  unfold strOfNums up_
  rw [List.map_map]
  congr 2
  conv => rhs; rw [← List.map_id l]
  apply List.map_congr_left
  intro b _
  simp
theorem escP_len {l : List UInt8} {b : UInt8} {n : Nat} (h : escP l = some (b, n)) : 1 ≤ n ∧ n ≤ l.length := by
  match l, h with
  | [], h => simp [escP] at h
  | [c], h =>
    simp only [escP] at h
    repeat' split at h
    all_goals simp at h
    all_goals (obtain ⟨_, rfl⟩ := h; simp)
  | [c, d], h =>
    simp only [escP] at h
    repeat' split at h
    all_goals simp at h
    all_goals (obtain ⟨_, rfl⟩ := h; simp)
  | c :: d :: e :: r, h =>
    simp only [escP] at h
    repeat' split at h
    all_goals simp at h
    all_goals (obtain ⟨_, rfl⟩ := h; simp)
theorem decP_len {l : List UInt8} {b : UInt8} {n : Nat} (h : decP l = some (b, n)) : 1 ≤ n ∧ n ≤ l.length := by
  match l, h with
  | [], h => simp [decP] at h
  | c :: l, h =>
    simp only [decP] at h
    split at h
    · obtain ⟨⟨b2, n2⟩, h2, h3⟩ := Option.map_eq_some_iff.1 h
      have := escP_len h2
      simp at h3
      obtain ⟨_, rfl⟩ := h3
      simp
      omega
    · split at h
      · simp at h
      · simp at h
        obtain ⟨_, rfl⟩ := h
        simp
theorem unqP_len : ∀ (d : Nat) (l : List UInt8) (t : List UInt8) (n : Nat), l.length = d → unqP l = some (t, n) → 1 ≤ n ∧ n ≤ l.length := by
  intro d
  induction d using Nat.strongRecOn with
  | _ d ih =>
    intro l t n hd h
    match l, hd, h with
    | [], _, h => simp [unqP] at h
    | c :: l, hd, h =>
      rw [unqP] at h
      split at h
      · simp at h
        obtain ⟨_, rfl⟩ := h
        simp
      · split at h
        · simp at h
        · rename_i b m hdec
          obtain ⟨⟨t2, n2⟩, h2, h3⟩ := Option.map_eq_some_iff.1 h
          have h4 := decP_len hdec
          simp only [List.length_cons] at hd h4
          have h5 := ih (l.drop (m - 1)).length (by simp; omega) _ t2 n2 rfl h2
          simp at h3 h5
          obtain ⟨_, rfl⟩ := h3
          simp
          omega
theorem w_succ (i : Nat) (h : i < 140737488355328) : wrap64 ((i : Int) + 1) = ((i + 1 : Nat) : Int) := by rw [wrap_in (by omega) (by omega)]; omega
theorem w_skip (i n : Nat) (h : i + n < 140737488355328) : wrap64 (wrap64 ((i : Int) + (n : Int)) + 1) = ((i + n + 1 : Nat) : Int) := by rw [wrap_in (x := (i : Int) + n) (by omega) (by omega), wrap_in (by omega) (by omega)]; omega
set_option maxHeartbeats 1000000 in
theorem get_loop (s : ByteArray) (hs : s.size < 140737488355328) : ∀ (d i : Nat) (acc : List UInt8), s.size - i = d → i ≤ s.size → acc.length ≤ i →
    Ev (fun k => quote_Get.l0 k s (up_ acc) (i : Int)) (getI ((unqP ((by_ s).drop i)).map fun r => (acc ++ r.1, r.2 + i))) := by
  intro d
  induction d using Nat.strongRecOn with
  | _ d ih =>
    intro i acc hd hi ha
    have hz := by_length s
    refine Ev.step (fun _ => rfl) ?_
    simp only [quote_Get.l0]
    by_cases h1 : i < s.size
    · have hl : i < (by_ s).length := by omega
      rw [List.drop_eq_getElem_cons hl]
      have hb := bt_by s i hl
      obtain ⟨c, hc⟩ : ∃ c, (by_ s)[i] = c := ⟨_, rfl⟩
      rw [hc] at hb ⊢
      have hcl := c.toNat_lt
      refine Ev.pos (by omega) (Ev.pos (by omega) ?_)
      rw [hb, unqP]
      have hi2 : i < 140737488355328 := by omega
      by_cases c1 : c.toNat = 34
      · rw [if_pos c1]
        refine Ev.pos (by omega) (Ev.ret ?_)
        simp only [Option.map_some, getI, nums_up, w_succ i hi2, List.append_nil]
        congr 2
        omega
      rw [if_neg c1]
      refine Ev.neg (by omega) ?_
      by_cases c2 : c.toNat = 92
      · refine Ev.pos (by omega) ?_
        rw [w_succ i hi2]
        refine Ev.pos (by omega) (Ev.pos (by omega) ?_)
        have he : by_ (s.extract ((i + 1 : Nat) : Int).toNat s.size) = (by_ s).drop (i + 1) := by
          rw [by_extract, Int.toNat_natCast, List.take_of_length_le (by omega)]
        have hev := escaped_ev (s.extract ((i + 1 : Nat) : Int).toNat s.size)
        rw [he] at hev
        refine Ev.bind hev ?_
        simp only [decP]
        rw [if_pos c2]
        cases hesc : escP ((by_ s).drop (i + 1)) with
        | none => exact Ev.pos rfl (Ev.now _)
        | some r =>
          obtain ⟨b, n⟩ := r
          have hn := escP_len hesc
          rw [List.length_drop] at hn
          have hlt : s.size - (i + n + 1) < d := by clear hs hi2 hb; omega
          have hle : i + n + 1 ≤ s.size := by clear hs hi2 hb; omega
          have hal : (acc ++ [b]).length ≤ i + n + 1 := by clear hs hi2 hb; simp; omega
          have hrec := ih (s.size - (i + n + 1)) hlt (i + n + 1) (acc ++ [b]) rfl hle hal
          have hlen : (up_ acc).length < 140737488355328 := by simp only [up_, List.length_map]; omega
          refine Ev.neg (by simp only [escI]; omega) ?_
          refine Ev.pos hlen ?_
          simp only [escI, Option.map_some]
          have e1 : up_ acc ++ [((b.toNat : Nat) : Int)] = up_ (acc ++ [b]) := by simp [up_]
          rw [w_skip i n (by omega), e1]
          have e2 : (List.drop (i + 1) (by_ s)).drop (n + 1 - 1) = (by_ s).drop (i + n + 1) := by rw [List.drop_drop]; congr 1; omega
          rw [e2]
          have e3 : (Option.map (fun r => (acc ++ r.1, r.2 + i)) (Option.map (fun r => (b :: r.1, r.2 + (n + 1))) (unqP ((by_ s).drop (i + n + 1))))) = (unqP ((by_ s).drop (i + n + 1))).map fun r => ((acc ++ [b]) ++ r.1, r.2 + (i + n + 1)) := by
            rw [Option.map_map]
            congr 1
            funext r
            simp
            omega
          rw [e3]
          exact hrec
      refine Ev.neg (by omega) ?_
      simp only [decP]
      rw [if_neg c2]
      by_cases c3 : c.toNat < 32
      · rw [if_pos (.inl c3)]
        exact Ev.pos (by omega) (Ev.now _)
      refine Ev.neg (by omega) ?_
      by_cases c4 : 126 < c.toNat
      · rw [if_pos (.inr c4)]
        exact Ev.pos (by omega) (Ev.now _)
      have hlen : (up_ acc).length < 140737488355328 := by simp only [up_, List.length_map]; omega
      refine Ev.neg (by omega) ?_
      refine Ev.pos hlen ?_
      rw [if_neg (by omega), w_succ i hi2]
      have e1 : up_ acc ++ [((c.toNat : Nat) : Int)] = up_ (acc ++ [c]) := by simp [up_]
      rw [e1]
      have hrec := ih (s.size - (i + 1)) (by omega) (i + 1) (acc ++ [c]) rfl (by omega) (by simp; omega)
      have e3 : (Option.map (fun r => (acc ++ r.1, r.2 + i)) (Option.map (fun r => (c :: r.1, r.2 + 1)) (unqP (List.drop (1 - 1) ((by_ s).drop (i + 1)))))) = (unqP ((by_ s).drop (i + 1))).map fun r => ((acc ++ [c]) ++ r.1, r.2 + (i + 1)) := by
        rw [Option.map_map, Nat.sub_self, List.drop_zero]
        congr 1
        funext r
        simp
        omega
      simp only
      rw [e3]
      exact hrec
    · rw [List.drop_of_length_le (by omega), unqP]
      exact Ev.neg (by omega) (Ev.now _)
theorem get_ev (s : ByteArray) (hs : s.size < 140737488355328) : Ev (fun k => quote_Get.f k s) (getI (getP (by_ s))) := by
  have hz := by_length s
  unfold quote_Get.f
  rw [toList_by]
  cases hb : by_ s with
  | nil => exact Ev.pos rfl (Ev.step (f := fun _ => some (⟨#[]⟩, 0, false)) (fun _ => by simp [quote_Get.j0]) (Ev.now _))
  | cons c l =>
    rw [hb] at hz
    simp only [List.length_cons] at hz
    have h0 : bt s 0 = (c.toNat : Int) := bt_at_ s 0 c (by rw [hb]; rfl)
    refine Ev.neg (by simp) (Ev.pos (by omega) (Ev.step (fun _ => rfl) ?_))
    simp only [quote_Get.j0, getP, h0]
    by_cases c1 : c.toNat = 34
    · rw [if_pos c1]
      refine Ev.neg (by simp; omega) ?_
      have h := get_loop s hs (s.size - 1) 1 [] rfl (by omega) (by simp)
      rw [hb] at h
      have e0 : (Option.map (fun r => (([] : List UInt8) ++ r.1, r.2 + 1)) (unqP (List.drop 1 (c :: l)))) = (unqP l).map fun r => (r.1, r.2 + 1) := by simp
      rw [e0] at h
      exact h
    · rw [if_neg c1]
      exact Ev.pos (by simp; omega) (Ev.now _)
end Go.Proofs.Ytbkhgldinmabiaa.B
