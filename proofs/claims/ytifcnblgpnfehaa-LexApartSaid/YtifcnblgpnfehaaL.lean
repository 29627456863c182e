/-
  What the words of package lex answer, in plain lists of bytes, for the seat Ytifcnblgpnfehaa.
-/
import Derived.Test.YtifcnblgpnfehaaX15
import Derived.Test.YtifcnblgpnfehaaX16
import Derived.Test.YtifcnblgpnfehaaX17
import Derived.Test.YtifcnblgpnfehaaX4
import Derived.Test.YtifcnblgpnfehaaQ
set_option linter.unusedVariables false
set_option linter.unusedSimpArgs false
namespace Go.Proofs.Ytifcnblgpnfehaa.B
open Go.RowKit Go.Proofs.Ytifcnblgpnfehaa.X Go.Proofs.YtifcnblgpnfehaaW.PrintWords Go.Proofs.YtifcnblgpnfehaaW.PrintLast

/-! ### a byte in one of some ranges -/
def inP (l : List ByteArray) (b : Int) : Bool := l.any fun r => decide (bt r 0 ≤ b) && decide (b ≤ bt r ((r.size : Int) - 1))
theorem in_loop (b : Int) (l : List ByteArray) (hl : l.length ≤ 100) (hs : ∀ r ∈ l, 0 < r.size ∧ r.size ≤ 100) : ∀ (d i : Nat), l.length - i = d → i ≤ l.length →
    Ev (fun k => lex_in.l0 k b l (l.length : Int) (i : Int)) (inP (l.drop i) b)
  | 0, i, hd, hi => by
    refine Ev.step (fun _ => rfl) ?_
    simp only [lex_in.l0]
    rw [List.drop_of_length_le (by omega)]
    exact Ev.neg (by omega) (Ev.now _)
  | d + 1, i, hd, hi => by
    have hlt : i < l.length := by omega
    refine Ev.step (fun _ => rfl) ?_
    simp only [lex_in.l0]
    obtain ⟨r, hr⟩ : ∃ r, l[i] = r := ⟨_, rfl⟩
    have e : rdOf ByteArray.empty l (i : Int) = r := by simp [rdOf, List.getD_eq_getElem?_getD, hlt, hr]
    obtain ⟨h1, h2⟩ := hs r (by rw [← hr]; exact List.getElem_mem hlt)
    have w1 : wrap64 ((i : Int) + 1) = ((i + 1 : Nat) : Int) := by rw [wrap_in (by omega) (by omega)]; omega
    have w2 : wrap64 ((r.size : Int) - 1) = (r.size : Int) - 1 := wrap_in (by omega) (by omega)
    have ih := in_loop b l hl hs d (i + 1) (by omega) (by omega)
    rw [List.drop_eq_getElem_cons hlt, hr]
    have hcons : inP (r :: l.drop (i + 1)) b = ((decide (bt r 0 ≤ b) && decide (b ≤ bt r ((r.size : Int) - 1))) || inP (l.drop (i + 1)) b) := rfl
    rw [hcons, e, w1, w2]
    refine Ev.pos (by omega) (Ev.pos (by omega) (Ev.pos (by omega) (Ev.pos (by omega) ?_)))
    by_cases c1 : b ≥ bt r 0
    · refine Ev.pos c1 (Ev.pos (by omega) (Ev.pos (by omega) ?_))
      by_cases c2 : b ≤ bt r ((r.size : Int) - 1)
      · exact Ev.pos c2 (Ev.ret (by simp [c1, c2]))
      · refine Ev.neg c2 ?_
        rw [decide_eq_false c2, Bool.and_false, Bool.false_or]
        exact ih
    · refine Ev.neg c1 ?_
      rw [decide_eq_false (p := bt r 0 ≤ b) c1, Bool.false_and, Bool.false_or]
      exact ih
theorem in_ev (b : Int) (l : List ByteArray) (hl : l.length ≤ 100) (hs : ∀ r ∈ l, 0 < r.size ∧ r.size ≤ 100) : Ev (fun k => lex_in.f k b l) (inP l b) := by
  have h := in_loop b l hl hs l.length 0 rfl (by omega)
  exact h
/-! ### how many bytes of a kind a text begins with -/
theorem while_loop (s : ByteArray) (hz : s.size < 140737488355328) (l : List ByteArray) (hl : l.length ≤ 100) (hs : ∀ r ∈ l, 0 < r.size ∧ r.size ≤ 100) : ∀ (d i : Nat), s.size - i = d → i ≤ s.size →
    Ev (fun k => lex_while.l0 k s l (i : Int)) ((i + (((by_ s).drop i).takeWhile fun c => inP l (c.toNat : Int)).length : Nat) : Int)
  | 0, i, hd, hi => by
    have hb := by_length s
    refine Ev.step (fun _ => rfl) ?_
    simp only [lex_while.l0]
    rw [List.drop_of_length_le (by omega)]
    exact Ev.neg (by omega) (Ev.now _)
  | d + 1, i, hd, hi => by
    have hb := by_length s
    have hlt : i < (by_ s).length := by omega
    refine Ev.step (fun _ => rfl) ?_
    simp only [lex_while.l0]
    have ih := while_loop s hz l hl hs d (i + 1) (by omega) (by omega)
    have hc := bt_by s i hlt
    rw [List.drop_eq_getElem_cons hlt, List.takeWhile_cons, w_succ i (by omega)]
    refine Ev.pos (by omega) (Ev.pos (by omega) (Ev.bind (in_ev _ l hl hs) ?_))
    rw [hc]
    by_cases c : inP l (((by_ s)[i]).toNat : Int) = true
    · refine Ev.pos c ?_
      rw [if_pos c, List.length_cons]
      have e : i + (((by_ s).drop (i + 1)).takeWhile (fun c => inP l (c.toNat : Int))).length.succ = i + 1 + (((by_ s).drop (i + 1)).takeWhile (fun c => inP l (c.toNat : Int))).length := by omega
      rw [e]
      exact ih
    · refine Ev.neg c ?_
      rw [if_neg c]
      exact Ev.now _
theorem while_ev (s : ByteArray) (hz : s.size < 140737488355328) (l : List ByteArray) (hl : l.length ≤ 100) (hs : ∀ r ∈ l, 0 < r.size ∧ r.size ≤ 100) :
    Ev (fun k => lex_while.f k s l) (((by_ s).takeWhile fun c => inP l (c.toNat : Int)).length : Int) := by
  have h := while_loop s hz l hl hs s.size 0 rfl (by omega)
  rw [List.drop_zero, Nat.zero_add] at h
  exact h
/-! ### names -/
def nameC (c : UInt8) : Bool := c.toNat == 95 || (48 ≤ c.toNat && c.toNat ≤ 57) || (65 ≤ c.toNat && c.toNat ≤ 90) || (97 ≤ c.toNat && c.toNat ≤ 122)
def nameP : List UInt8 → Bool
  | [] => false
  | c :: l => decide (l.length < 32) && !(48 ≤ c.toNat && c.toNat ≤ 57) && (c :: l).all nameC
theorem nameC_no (c : UInt8) : nameC c = false ↔ c.toNat ≠ 95 ∧ (c.toNat < 48 ∨ 57 < c.toNat) ∧ (c.toNat < 65 ∨ Go.bits .or .u8 (c.toNat : Int) 32 < 97 ∨ 122 < Go.bits .or .u8 (c.toNat : Int) 32) := by
  have h : ∀ n : Fin 256, nameC (UInt8.ofNat n.val) = false ↔ (UInt8.ofNat n.val).toNat ≠ 95 ∧ ((UInt8.ofNat n.val).toNat < 48 ∨ 57 < (UInt8.ofNat n.val).toNat) ∧ ((UInt8.ofNat n.val).toNat < 65 ∨ Go.bits .or .u8 ((UInt8.ofNat n.val).toNat : Int) 32 < 97 ∨ 122 < Go.bits .or .u8 ((UInt8.ofNat n.val).toNat : Int) 32) := by decide +kernel
  have := h ⟨c.toNat, c.toNat_lt⟩
  simpa using this
theorem name_loop (s : ByteArray) (hz : s.size ≤ 32) : ∀ (d i : Nat), s.size - i = d → i ≤ s.size →
    Ev (fun k => label_Name.l0 k (bytesOf s) ((bytesOf s).length : Int) (i : Int)) (((by_ s).drop i).all nameC)
  | 0, i, hd, hi => by
    have hb := by_length s
    have hl := bytesOf_length s
    refine Ev.step (fun _ => rfl) ?_
    simp only [label_Name.l0]
    rw [List.drop_of_length_le (by omega)]
    exact Ev.neg (by omega) (Ev.now _)
  | d + 1, i, hd, hi => by
    have hb := by_length s
    have hl := bytesOf_length s
    have hlt : i < (by_ s).length := by omega
    refine Ev.step (fun _ => rfl) ?_
    simp only [label_Name.l0]
    have ih := name_loop s hz d (i + 1) (by omega) (by omega)
    have hc : rd (bytesOf s) (i : Int) = (((by_ s)[i]).toNat : Int) := by rw [rd_bytesOf, bt_by s i hlt]
    rw [List.drop_eq_getElem_cons hlt, List.all_cons, w_succ i (by omega), hc]
    obtain ⟨c, hcc⟩ : ∃ c, (by_ s)[i] = c := ⟨_, rfl⟩
    rw [hcc]
    refine Ev.pos (by omega) (Ev.pos (by omega) (Ev.pos (by omega) ?_))
    by_cases hn : nameC c = true
    · rw [hn, Bool.true_and]
      have h2 : ¬ (c.toNat ≠ 95 ∧ (c.toNat < 48 ∨ 57 < c.toNat) ∧ (c.toNat < 65 ∨ Go.bits .or .u8 (c.toNat : Int) 32 < 97 ∨ 122 < Go.bits .or .u8 (c.toNat : Int) 32)) := fun h => by rw [(nameC_no c).mpr h] at hn; cases hn
      by_cases c1 : (c.toNat : Int) = 95
      · exact Ev.pos c1 ih
      refine Ev.neg c1 ?_
      by_cases c2 : (c.toNat : Int) < 48
      · refine Ev.pos c2 (Ev.neg (by omega) (Ev.neg (by omega) (Ev.neg (by omega) ih)))
      refine Ev.neg c2 ?_
      by_cases c3 : (c.toNat : Int) > 57
      · refine Ev.pos c3 (Ev.neg (by omega) (Ev.neg (by omega) (Ev.neg (by omega) ih)))
      · exact Ev.neg c3 ih
    · rw [Bool.not_eq_true] at hn
      obtain ⟨h1, h2, h3⟩ := (nameC_no c).mp hn
      rw [hn, Bool.false_and]
      refine Ev.neg (by omega) ?_
      by_cases c2 : (c.toNat : Int) < 48
      · refine Ev.pos c2 ?_
        by_cases c4 : (c.toNat : Int) < 65
        · exact Ev.pos c4 (Ev.now _)
        · omega
      refine Ev.neg c2 (Ev.pos (by omega) ?_)
      by_cases c4 : (c.toNat : Int) < 65
      · exact Ev.pos c4 (Ev.now _)
      refine Ev.neg c4 ?_
      by_cases c5 : Go.bits .or .u8 (c.toNat : Int) 32 < 97
      · exact Ev.pos c5 (Ev.now _)
      · exact Ev.neg c5 (Ev.pos (by omega) (Ev.now _))
theorem name_ev (s : ByteArray) : Ev (fun k => label_Name.f k s) (nameP (by_ s)) := by
  have hb := by_length s
  have hno : Ev (fun k => label_Name.j0 k s true) false := Ev.step (f := fun _ => some false) (fun _ => by simp [label_Name.j0]) (Ev.now _)
  unfold label_Name.f
  rw [toList_by]
  cases hs : by_ s with
  | nil => exact Ev.pos rfl hno
  | cons c l =>
    rw [hs] at hb
    simp only [List.length_cons] at hb
    have h0 : bt s 0 = (c.toNat : Int) := bt_at_ s 0 c (by rw [hs]; rfl)
    refine Ev.neg (by simp) ?_
    by_cases h32 : (s.size : Int) > 32
    · refine Ev.pos h32 ?_
      have e : nameP (c :: l) = false := by simp only [nameP]; rw [decide_eq_false (by omega)]; rfl
      rw [e]
      exact hno
    refine Ev.neg h32 (Ev.pos (by omega) ?_)
    have hyes : Ev (fun k => label_Name.j0 k s false) ((c :: l).all nameC) := by
      refine Ev.step (fun _ => rfl) ?_
      simp only [label_Name.j0]
      have h := name_loop s (by omega) s.size 0 rfl (by omega)
      rw [List.drop_zero, hs] at h
      exact Ev.neg (by simp) (Ev.pos (by omega) (Ev.one h))
    rw [h0]
    have e0 : decide (l.length < 32) = true := decide_eq_true (by omega)
    simp only [nameP, e0, Bool.true_and]
    by_cases c1 : (c.toNat : Int) ≥ 48
    · refine Ev.pos c1 ?_
      by_cases c2 : (c.toNat : Int) ≤ 57
      · rw [decide_eq_true c2, decide_eq_true (show 48 ≤ c.toNat by omega), decide_eq_true (show c.toNat ≤ 57 by omega)]
        exact hno
      · rw [decide_eq_false c2, decide_eq_false (show ¬ c.toNat ≤ 57 by omega), Bool.and_false, Bool.not_false, Bool.true_and]
        exact hyes
    · refine Ev.neg c1 ?_
      rw [decide_eq_false (show ¬ 48 ≤ c.toNat by omega), Bool.false_and, Bool.not_false, Bool.true_and]
      exact hyes
/-! ### signs -/
def pfxP (o t : List UInt8) : Bool := t.take o.length == o
theorem pfx_f (t op : ByteArray) : strings_HasPrefix.f t op = some (pfxP (by_ op) (by_ t)) := by
  have h1 := by_length t
  have h2 := by_length op
  unfold strings_HasPrefix.f stringslite_HasPrefix.f pfxP
  by_cases h : (t.size : Int) ≥ (op.size : Int)
  · rw [if_pos h, if_pos (by omega), if_pos (by omega), Option.bind_some, toList_by, toList_by, by_extract, List.drop_zero, h2]
  · rw [if_neg h, Option.bind_some]
    congr 1
    symm
    rw [beq_eq_false_iff_ne]
    intro e
    have := congrArg List.length e
    rw [List.length_take] at this
    omega
def opsP : List (List UInt8) := [[61, 126], [33, 126], [33, 61], [61, 61], [62, 61], [60, 61], [124, 61], [124, 126], [123], [125], [44], [61], [62], [60], [124]]
def opP (t : List UInt8) : Option (List UInt8) := opsP.find? fun o => pfxP o t
theorem op_find (t : List UInt8) : ∀ (L : List ByteArray), (L.find? fun op => pfxP (by_ op) t).map by_ = (L.map by_).find? fun o => pfxP o t
  | [] => rfl
  | x :: L => by
    rw [List.map_cons, List.find?_cons, List.find?_cons]
    by_cases h : pfxP (by_ x) t = true
    · rw [h]; rfl
    · rw [Bool.not_eq_true] at h
      rw [h]
      exact op_find t L
theorem lexOp_by (t : ByteArray) : (lexOp t).map by_ = opP (by_ t) := by
  unfold lexOp opP
  have e : (fun op => strings_HasPrefix.f t op == some true) = fun op => pfxP (by_ op) (by_ t) := by
    funext op
    rw [pfx_f]
    cases pfxP (by_ op) (by_ t) <;> rfl
  rw [e, op_find]
  rfl
/-! ### the kinds of bytes -/
def letC (c : UInt8) : Bool := (65 ≤ c.toNat && c.toNat ≤ 90) || (97 ≤ c.toNat && c.toNat ≤ 122)
def digC (c : UInt8) : Bool := 48 ≤ c.toNat && c.toNat ≤ 57
def valC (c : UInt8) : Bool := letC c || digC c
theorem inR1 (c : UInt8) : inP lexR1 (c.toNat : Int) = (letC c || c.toNat == 95) := by
  have h : ∀ n : Fin 256, inP lexR1 ((UInt8.ofNat n.val).toNat : Int) = (letC (UInt8.ofNat n.val) || (UInt8.ofNat n.val).toNat == 95) := by decide +kernel
  have := h ⟨c.toNat, c.toNat_lt⟩
  simpa using this
theorem inR2 (c : UInt8) : inP lexR2 (c.toNat : Int) = nameC c := by
  have h : ∀ n : Fin 256, inP lexR2 ((UInt8.ofNat n.val).toNat : Int) = nameC (UInt8.ofNat n.val) := by decide +kernel
  have := h ⟨c.toNat, c.toNat_lt⟩
  simpa using this
theorem inR3 (c : UInt8) : inP lexR3 (c.toNat : Int) = digC c := by
  have h : ∀ n : Fin 256, inP lexR3 ((UInt8.ofNat n.val).toNat : Int) = digC (UInt8.ofNat n.val) := by decide +kernel
  have := h ⟨c.toNat, c.toNat_lt⟩
  simpa using this
theorem inR4 (c : UInt8) : inP lexR4 (c.toNat : Int) = valC c := by
  have h : ∀ n : Fin 256, inP lexR4 ((UInt8.ofNat n.val).toNat : Int) = valC (UInt8.ofNat n.val) := by decide +kernel
  have := h ⟨c.toNat, c.toNat_lt⟩
  simpa using this
theorem small (L : List ByteArray) (h : (L.all fun r => decide (0 < r.size) && decide (r.size ≤ 100)) = true) : ∀ r ∈ L, 0 < r.size ∧ r.size ≤ 100 := by
  intro r hr
  have := List.all_eq_true.mp h r hr
  simpa using this
/-! ### the next word -/
/-- the word that a text begins with: its kind, its text, how many bytes it has -/
def wordP (t : List UInt8) : Option (Int × List UInt8 × Nat) :=
  match opP t with
  | some o => some (4, o, o.length)
  | none => match getP t with
    | some r => some (2, r.1, r.2)
    | none => match t with
      | [] => none
      | c :: l =>
        if (letC c || c.toNat == 95) = true then
          if nameP ((c :: l).takeWhile nameC) = true then some (1, (c :: l).takeWhile nameC, ((c :: l).takeWhile nameC).length) else none
        else if c.toNat = 45 then match l with
          | [] => none
          | d :: _ => if digC d = true then some (3, c :: l.takeWhile valC, 1 + (l.takeWhile valC).length) else none
        else if digC c = true then some (3, (c :: l).takeWhile valC, ((c :: l).takeWhile valC).length) else none
def wordI (a : Nat) (l : List S33) (o : Option (Int × List UInt8 × Nat)) : Bool × Int × List S33 := match o with
  | some (k, x, n) => (true, ((a + n : Nat) : Int), l ++ [⟨k, ⟨x.toArray⟩, (a : Int)⟩])
  | none => (false, (a : Int), l)
theorem takeWhile_take (p : UInt8 → Bool) (l : List UInt8) : l.take (l.takeWhile p).length = l.takeWhile p := by
  induction l with
  | nil => rfl
  | cons c l ih =>
    rw [List.takeWhile_cons]
    split
    · rw [List.length_cons, List.take_succ_cons, ih]
    · rfl
theorem takeWhile_le (p : UInt8 → Bool) (l : List UInt8) : (l.takeWhile p).length ≤ l.length := (List.takeWhile_sublist p).length_le
theorem getP_len {t x : List UInt8} {n : Nat} (h : getP t = some (x, n)) : 2 ≤ n ∧ n ≤ t.length := by
  match t, h with
  | [], h => simp [getP] at h
  | c :: l, h =>
    simp only [getP] at h
    split at h
    · obtain ⟨⟨y, m⟩, h1, h2⟩ := Option.map_eq_some_iff.1 h
      have := unqP_len _ l y m rfl h1
      simp at h2
      obtain ⟨_, rfl⟩ := h2
      simp
      omega
    · simp at h
theorem by_take (t : ByteArray) (n : Nat) : t.extract 0 n = ⟨((by_ t).take n).toArray⟩ := by
  apply by_ext
  rw [by_extract, List.drop_zero]
  exact (by_mk _).symm
theorem mk_by (t : ByteArray) : (⟨(by_ t).toArray⟩ : ByteArray) = t := by apply by_ext; rw [by_mk]
theorem word_ev (s : ByteArray) (hz : s.size ≤ 1024) (a : Nat) (ha : a < s.size) (l : List S33) (hl : l.length ≤ 1024) :
    Ev (fun k => lex_lexer_word.f k s (a : Int) l) (wordI a l (wordP ((by_ s).drop a))) := by
  have hb := by_length s
  have e0 : by_ (s.extract ((a : Int)).toNat s.size) = (by_ s).drop a := by rw [by_extract, Int.toNat_natCast, List.take_of_length_le (by omega)]
  obtain ⟨t, ht⟩ : ∃ t, s.extract ((a : Int)).toNat s.size = t := ⟨_, rfl⟩
  have htl : t.size = s.size - a := by rw [← ht, ByteArray.size_extract, Int.toNat_natCast]; omega
  rw [ht] at e0
  unfold lex_lexer_word.f
  refine Ev.pos ⟨by omega, by omega, hz, by omega⟩ ?_
  rw [ht, ← e0]
  have hop := lexOp_by t
  unfold wordP
  cases h1 : lexOp t with
  | some op =>
    rw [h1] at hop
    rw [← hop]
    refine Ev.pos rfl (Ev.ret ?_)
    simp only [Option.map_some, Option.getD_some, wordI, by_length, mk_by]
    (congr 1 <;> omega)
  | none =>
    rw [h1] at hop
    rw [← hop]
    refine Ev.neg (by simp) (Ev.bind (get_ev t (by omega)) ?_)
    simp only [Option.map_none]
    cases h2 : getP (by_ t) with
    | some r =>
      obtain ⟨x, n⟩ := r
      have hn := getP_len h2
      rw [by_length] at hn
      refine Ev.pos rfl (Ev.pos ?_ (Ev.ret ?_))
      · simp only [getI]; omega
      · simp only [getI, wordI]
        (congr 1 <;> omega)
    | none =>
      refine Ev.neg (by simp [getI]) ?_
      have htb := by_length t
      cases h3 : by_ t with
      | nil => rw [h3] at htb; simp at htb; omega
      | cons c r =>
        rw [h3] at htb
        simp only [List.length_cons] at htb
        have hc0 : bt t 0 = (c.toNat : Int) := bt_at_ t 0 c (by rw [h3]; rfl)
        rw [hc0]
        dsimp only
        have s1 := in_ev (c.toNat : Int) lexR1 (by decide) (small _ (by decide +kernel))
        rw [inR1] at s1
        refine Ev.bind s1 ?_
        by_cases c1 : (letC c || c.toNat == 95) = true
        · rw [if_pos c1, c1]
          have s2 := while_ev t (by omega) lexR2 (by decide) (small _ (by decide +kernel))
          have e2 : (fun c : UInt8 => inP lexR2 (c.toNat : Int)) = nameC := by funext c; exact inR2 c
          rw [e2, h3] at s2
          refine Ev.pos rfl (Ev.bind s2 ?_)
          have hle := takeWhile_le nameC (c :: r)
          rw [List.length_cons] at hle
          refine Ev.pos ⟨by omega, by omega⟩ ?_
          have e3 : t.extract 0 ((((c :: r).takeWhile nameC).length : Nat) : Int).toNat = ⟨((c :: r).takeWhile nameC).toArray⟩ := by rw [Int.toNat_natCast, by_take, h3, takeWhile_take]
          rw [e3]
          have s3 := name_ev (⟨((c :: r).takeWhile nameC).toArray⟩ : ByteArray)
          rw [by_mk] at s3
          refine Ev.bind s3 ?_
          by_cases c2 : nameP ((c :: r).takeWhile nameC) = true
          · rw [if_pos c2]
            first | rw [if_pos c2] | skip
            refine Ev.ret ?_
            simp only [wordI]
            (congr 1 <;> omega)
          · rw [if_neg c2]
            first | rw [if_neg c2] | skip
            exact Ev.now _
        · rw [if_neg c1]
          refine Ev.neg c1 ?_
          have e4 : (fun c : UInt8 => inP lexR4 (c.toNat : Int)) = valC := by funext c; exact inR4 c
          by_cases c2 : c.toNat = 45
          · rw [if_pos c2]
            refine Ev.pos (by omega) ?_
            cases r with
            | nil =>
              simp at htb
              exact Ev.neg (by omega) (Ev.now _)
            | cons d r =>
              simp only [List.length_cons] at htb
              dsimp only
              have hd0 : bt t 1 = (d.toNat : Int) := bt_at_ t 1 d (by rw [h3]; rfl)
              rw [hd0]
              have s2 := in_ev (d.toNat : Int) lexR3 (by decide) (small _ (by decide +kernel))
              rw [inR3] at s2
              refine Ev.pos (by omega) (Ev.bind s2 ?_)
              by_cases c3 : digC d = true
              · rw [if_pos c3]
                refine Ev.pos c3 ?_
                have s3 := while_ev (t.extract 1 t.size) (by rw [ByteArray.size_extract]; omega) lexR4 (by decide) (small _ (by decide +kernel))
                have e5 : by_ (t.extract 1 t.size) = d :: r := by rw [by_extract, List.take_of_length_le (by rw [by_length]; omega), h3]; rfl
                rw [e4, e5] at s3
                refine Ev.bind s3 ?_
                have hle := takeWhile_le valC (d :: r)
                rw [List.length_cons] at hle
                refine Ev.pos ⟨by omega, by omega⟩ (Ev.ret ?_)
                have e6 : t.extract 0 (1 + ((((d :: r).takeWhile valC).length : Nat) : Int)).toNat = ⟨(c :: (d :: r).takeWhile valC).toArray⟩ := by
                  have : (1 + ((((d :: r).takeWhile valC).length : Nat) : Int)).toNat = ((d :: r).takeWhile valC).length + 1 := by omega
                  rw [this, by_take, h3, List.take_succ_cons, takeWhile_take]
                rw [e6]
                simp only [wordI]
                (congr 1 <;> omega)
              · rw [if_neg c3]
                exact Ev.neg c3 (Ev.now _)
          · rw [if_neg c2]
            have s2 := in_ev (c.toNat : Int) lexR3 (by decide) (small _ (by decide +kernel))
            rw [inR3] at s2
            refine Ev.neg (by omega) (Ev.bind s2 ?_)
            by_cases c3 : digC c = true
            · rw [if_pos c3]
              refine Ev.pos c3 ?_
              have s3 := while_ev t (by omega) lexR4 (by decide) (small _ (by decide +kernel))
              rw [e4, h3] at s3
              refine Ev.bind s3 ?_
              have hle := takeWhile_le valC (c :: r)
              rw [List.length_cons] at hle
              refine Ev.pos ⟨by omega, by omega⟩ (Ev.ret ?_)
              have e6 : t.extract 0 (((((c :: r).takeWhile valC).length : Nat) : Int)).toNat = ⟨((c :: r).takeWhile valC).toArray⟩ := by rw [Int.toNat_natCast, by_take, h3, takeWhile_take]
              rw [e6]
              simp only [wordI]
              (congr 1 <;> omega)
            · rw [if_neg c3]
              exact Ev.neg c3 (Ev.now _)
/-! ### all words -/
def spC (c : UInt8) : Bool := c.toNat == 32 || c.toNat == 9 || c.toNat == 10
theorem idx_sp (c : UInt8) : ∃ i, strings_IndexByte.f (⟨#[32, 9, 10]⟩ : ByteArray) (c.toNat : Int) = some i ∧ (i ≥ 0 ↔ spC c = true) := by
  have h : ∀ n : Fin 256, Lib.indexByte [32, 9, 10] (UInt8.ofNat n.val) ≥ 0 ↔ spC (UInt8.ofNat n.val) = true := by decide +kernel
  have := h ⟨c.toNat, c.toNat_lt⟩
  refine ⟨Lib.indexByte [32, 9, 10] c, ?_, by simpa using this⟩
  unfold strings_IndexByte.f
  simp
theorem wordP_len {t x : List UInt8} {k : Int} {n : Nat} (h : wordP t = some (k, x, n)) : 1 ≤ n ∧ n ≤ t.length ∧ 1 ≤ k ∧ k ≤ 4 := by
  unfold wordP at h
  split at h
  · rename_i o ho
    simp only [Option.some.injEq, Prod.mk.injEq] at h
    obtain ⟨rfl, rfl, rfl⟩ := h
    have h1 := List.find?_some ho
    have h2 := List.mem_of_find?_eq_some ho
    have h3 : ∀ y ∈ opsP, 1 ≤ y.length := by decide
    simp only [pfxP, beq_iff_eq] at h1
    have h4 := congrArg List.length h1
    rw [List.length_take] at h4
    exact ⟨h3 _ h2, by omega, by omega, by omega⟩
  · split at h
    · rename_i r hr
      simp only [Option.some.injEq, Prod.mk.injEq] at h
      obtain ⟨rfl, rfl, rfl⟩ := h
      have := getP_len hr
      exact ⟨by omega, by omega, by omega, by omega⟩
    · split at h
      · simp at h
      · rename_i c l _ _
        split at h
        · split at h
          · rename_i hn
            simp only [Option.some.injEq, Prod.mk.injEq] at h
            obtain ⟨rfl, rfl, rfl⟩ := h
            have hle := takeWhile_le nameC (c :: l)
            refine ⟨?_, hle, by omega, by omega⟩
            cases hw : (c :: l).takeWhile nameC with
            | nil => rw [hw] at hn; simp [nameP] at hn
            | cons _ _ => simp
          · simp at h
        · split at h
          · split at h
            · simp at h
            · split at h
              · rename_i d r _ _ hd
                simp only [Option.some.injEq, Prod.mk.injEq] at h
                obtain ⟨rfl, rfl, rfl⟩ := h
                have hle := takeWhile_le valC (d :: r)
                simp only [List.length_cons] at hle ⊢
                exact ⟨by omega, by omega, by omega, by omega⟩
              · simp at h
          · split at h
            · rename_i hd
              simp only [Option.some.injEq, Prod.mk.injEq] at h
              obtain ⟨rfl, rfl, rfl⟩ := h
              have hle := takeWhile_le valC (c :: l)
              refine ⟨?_, hle, by omega, by omega⟩
              rw [List.takeWhile_cons, if_pos (by simp [valC, hd])]
              simp
            · simp at h
def allP : Nat → List UInt8 → Nat → List S33 → List S33 × Int × Int
  | 0, _, a, l => (l, a, 0)
  | _ + 1, [], a, l => (l, a, 0)
  | d + 1, c :: r, a, l =>
    if spC c = true then allP d r (a + 1) l
    else match wordP (c :: r) with
      | none => ([], a, 2)
      | some (k, x, n) => allP d ((c :: r).drop n) (a + n) (l ++ [⟨k, ⟨x.toArray⟩, (a : Int)⟩])
theorem all_loop (s : ByteArray) (hz : s.size ≤ 1024) : ∀ (d a : Nat) (l : List S33), s.size - a ≤ d → a ≤ s.size → l.length ≤ a →
    Ev (fun k => lex_All.l0 k s (a : Int) l) (allP d ((by_ s).drop a) a l)
  | d, a, l, hd, ha, hl => by
    have hb := by_length s
    by_cases hlt : a < s.size
    · match d, hd with
      | 0, hd => omega
      | d + 1, hd =>
        refine Ev.step (fun _ => rfl) ?_
        simp only [lex_All.l0]
        have hl2 : a < (by_ s).length := by omega
        have hw := word_ev s hz a hlt l (by omega)
        rw [List.drop_eq_getElem_cons hl2] at hw ⊢
        have hc := bt_by s a hl2
        obtain ⟨c, hcc⟩ : ∃ c, (by_ s)[a] = c := ⟨_, rfl⟩
        rw [hcc] at hc hw ⊢
        obtain ⟨i, hi, hi2⟩ := idx_sp c
        rw [hc, hi]
        refine Ev.pos (by omega) (Ev.pos (by omega) (Ev.one ?_))
        simp only [allP]
        by_cases c1 : spC c = true
        · rw [if_pos c1]
          have ih := all_loop s hz d (a + 1) l (by omega) (by omega) (by omega)
          exact Ev.pos (hi2.mpr c1) ih
        · rw [if_neg c1]
          refine Ev.neg (fun h => c1 (hi2.mp h)) (Ev.bind hw ?_)
          cases hp : wordP (c :: (by_ s).drop (a + 1)) with
          | none => exact Ev.neg (by simp [wordI]) (Ev.now _)
          | some r =>
            obtain ⟨k, x, n⟩ := r
            have hn := wordP_len hp
            rw [← hcc, ← List.drop_eq_getElem_cons hl2] at hn ⊢
            rw [List.length_drop] at hn
            dsimp only [wordI]
            rw [List.drop_drop]
            have ih := all_loop s hz d (a + n) (l ++ [⟨k, ⟨x.toArray⟩, (a : Int)⟩]) (by omega) (by omega) (by simp; omega)
            exact Ev.pos rfl ih
    · rw [List.drop_of_length_le (by omega)]
      have e : allP d [] a l = (l, (a : Int), 0) := by cases d <;> rfl
      rw [e]
      refine Ev.step (fun _ => rfl) ?_
      simp only [lex_All.l0]
      exact Ev.neg (by omega) (Ev.now _)
theorem all_ev (s : ByteArray) : Ev (fun k => lex_All.f k s) (if 1024 < s.size then ([], 1024, 4) else allP s.size (by_ s) 0 []) := by
  unfold lex_All.f
  by_cases hz : 1024 < s.size
  · rw [if_pos hz]
    exact Ev.pos (by omega) (Ev.now _)
  · rw [if_neg hz]
    have h := all_loop s (by omega) s.size 0 [] (by omega) (by omega) (by simp)
    exact Ev.neg (by omega) h
end Go.Proofs.Ytifcnblgpnfehaa.B
