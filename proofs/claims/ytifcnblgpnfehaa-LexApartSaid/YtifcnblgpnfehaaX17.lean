-- Laid by xprint.py, a program of this session's, out of the translation.
import Derived.Test.YtifcnblgpnfehaaX0
import Derived.Test.YtifcnblgpnfehaaX3
import Derived.Test.YtifcnblgpnfehaaX4
import Derived.Test.YtifcnblgpnfehaaX15
import Derived.Test.YtifcnblgpnfehaaX16
namespace Go.Proofs.Ytifcnblgpnfehaa.X
open Go.RowKit Go.Proofs.YtifcnblgpnfehaaW.PrintWords Go.Proofs.YtifcnblgpnfehaaW.PrintLast Go.Proofs.YtifcnblgpnfehaaW.PrintMore
attribute [local go_sem] max2_int min2_int max_two min_two max_three min_three max_four min_four x_isSome   -- for this text's walks alone
set_option linter.unusedVariables false
set_option linter.unusedSimpArgs false

/-! ### lex_lexer_word: function 35 -/
def lexOps : List ByteArray := [(⟨#[61, 126]⟩ : ByteArray), (⟨#[33, 126]⟩ : ByteArray), (⟨#[33, 61]⟩ : ByteArray), (⟨#[61, 61]⟩ : ByteArray), (⟨#[62, 61]⟩ : ByteArray), (⟨#[60, 61]⟩ : ByteArray), (⟨#[124, 61]⟩ : ByteArray), (⟨#[124, 126]⟩ : ByteArray), (⟨#[123]⟩ : ByteArray), (⟨#[125]⟩ : ByteArray), (⟨#[44]⟩ : ByteArray), (⟨#[61]⟩ : ByteArray), (⟨#[62]⟩ : ByteArray), (⟨#[60]⟩ : ByteArray), (⟨#[124]⟩ : ByteArray)]
theorem lexOps_eq : lex_Ops.f = some lexOps := rfl
theorem lexOps_len : lexOps.length = 15 := rfl
def lexR1 : List ByteArray := [(⟨#[97, 122]⟩ : ByteArray), (⟨#[65, 90]⟩ : ByteArray), (⟨#[95]⟩ : ByteArray)]
def lexR2 : List ByteArray := [(⟨#[97, 122]⟩ : ByteArray), (⟨#[65, 90]⟩ : ByteArray), (⟨#[48, 57]⟩ : ByteArray), (⟨#[95]⟩ : ByteArray)]
def lexR3 : List ByteArray := [(⟨#[48, 57]⟩ : ByteArray)]
def lexR4 : List ByteArray := [(⟨#[97, 122]⟩ : ByteArray), (⟨#[65, 90]⟩ : ByteArray), (⟨#[48, 57]⟩ : ByteArray)]
/-- the sign that a text begins with -/
def lexOp (t : ByteArray) : Option ByteArray := lexOps.find? fun op => strings_HasPrefix.f t op == some true
/-- the next word of s at a: is there one, the place behind it, the words -/
def lex_lexer_word.f (k : Nat) (s : ByteArray) (a : Int) (l : List S33) : Option (Bool × Int × List S33) :=
  if 0 ≤ a ∧ a < (s.size : Int) ∧ s.size ≤ 1024 ∧ l.length < 4398046511104 then
    if (lexOp (s.extract a.toNat s.size)).isSome = true then
      some (true, a + (((lexOp (s.extract a.toNat s.size)).getD ByteArray.empty).size : Int), l ++ [⟨4, (lexOp (s.extract a.toNat s.size)).getD ByteArray.empty, a⟩])
    else (quote_Get.f k (s.extract a.toNat s.size)).bind fun q =>
      if q.2.2 = true then if 0 ≤ q.2.1 ∧ a + q.2.1 ≤ (s.size : Int) then some (true, a + q.2.1, l ++ [⟨2, q.1, a⟩]) else none
      else (lex_in.f k (bt (s.extract a.toNat s.size) 0) lexR1).bind fun c1 =>
        if c1 = true then (lex_while.f k (s.extract a.toNat s.size) lexR2).bind fun n =>
          if 0 ≤ n ∧ a + n ≤ (s.size : Int) then (label_Name.f k ((s.extract a.toNat s.size).extract 0 n.toNat)).bind fun b =>
            if b = true then some (true, a + n, l ++ [⟨1, (s.extract a.toNat s.size).extract 0 n.toNat, a⟩]) else some (false, a, l)
          else none
        else if bt (s.extract a.toNat s.size) 0 = 45 then
          if a + 1 < (s.size : Int) then (lex_in.f k (bt (s.extract a.toNat s.size) 1) lexR3).bind fun c2 =>
            if c2 = true then (lex_while.f k ((s.extract a.toNat s.size).extract 1 (s.extract a.toNat s.size).size) lexR4).bind fun m =>
              if 0 ≤ m ∧ a + (1 + m) ≤ (s.size : Int) then some (true, a + (1 + m), l ++ [⟨3, (s.extract a.toNat s.size).extract 0 (1 + m).toNat, a⟩]) else none
            else some (false, a, l)
          else some (false, a, l)
        else (lex_in.f k (bt (s.extract a.toNat s.size) 0) lexR3).bind fun c2 =>
          if c2 = true then (lex_while.f k (s.extract a.toNat s.size) lexR4).bind fun m =>
            if 0 ≤ m ∧ a + m ≤ (s.size : Int) then some (true, a + m, l ++ [⟨3, (s.extract a.toNat s.size).extract 0 m.toNat, a⟩]) else none
          else some (false, a, l)
  else none
theorem lex_lexer_word.mono : ∀ s a l k, LeO (lex_lexer_word.f k s a l) (lex_lexer_word.f (k + 1) s a l) := by
  intro s a l k
  unfold lex_lexer_word.f
  repeat' first
    | (with_reducible exact quote_Get.mono _ _)
    | (with_reducible exact lex_in.mono _ _ _)
    | (with_reducible exact lex_while.mono _ _ _)
    | (with_reducible exact label_Name.mono _ _)
    | (with_reducible exact LeO.refl _)
    | (with_reducible exact LeO.none _)
    | (with_reducible refine LeO.ite ?_ ?_)
    | (with_reducible refine LeO.bind ?_ (fun _ => ?_))
theorem lex_find_at {p : ByteArray → Bool} : ∀ (L : List ByteArray) (k : Nat) (op : ByteArray), k < L.length → L.getD k ByteArray.empty = op → (∀ j, j < k → p (L.getD j ByteArray.empty) = false) → p op = true → L.find? p = some op
  | [], k, op, hk, _, _, _ => by simp at hk
  | x :: L, 0, op, _, ho, _, h => by
    have : x = op := by simpa using ho
    subst this
    rw [List.find?_cons_of_pos h]
  | x :: L, k + 1, op, hk, ho, hno, h => by
    have h0 := hno 0 (by omega)
    rw [List.find?_cons_of_neg (by simpa using h0)]
    exact lex_find_at L k op (by simpa using hk) (by simpa using ho) (fun j hj => by simpa using hno (j + 1) (by omega)) h
theorem lexOp_at {t op : ByteArray} {k : Nat} (hk : k < lexOps.length) (hop : lexOps.getD k ByteArray.empty = op) (hno : ∀ j, j < k → ¬ strings_HasPrefix.f t (lexOps.getD j ByteArray.empty) = some true) (h : strings_HasPrefix.f t op = some true) : lexOp t = some op :=
  lex_find_at _ k op hk hop (fun j hj => by have := hno j hj; exact beq_eq_false_iff_ne.mpr this) (by rw [h]; rfl)
theorem lexOp_no {t : ByteArray} (hno : ∀ j, j < lexOps.length → ¬ strings_HasPrefix.f t (lexOps.getD j ByteArray.empty) = some true) : lexOp t = none := by
  unfold lexOp
  rw [List.find?_eq_none]
  intro x hx
  obtain ⟨j, hj, rfl⟩ := List.getElem_of_mem hx
  have := hno j hj
  rw [beq_iff_eq]
  rwa [List.getD_eq_getElem?_getD, List.getElem?_eq_getElem hj] at this
theorem lexPfx_some (t op : ByteArray) : ∃ b, strings_HasPrefix.f t op = some b := by
  unfold strings_HasPrefix.f stringslite_HasPrefix.f
  by_cases h : (t.size : Int) ≥ (op.size : Int)
  · rw [if_pos h, if_pos (by omega), if_pos (by omega)]
    exact ⟨_, rfl⟩
  · rw [if_neg h]
    exact ⟨_, rfl⟩
theorem lexOps_small (j : Nat) (hj : j < lexOps.length) : (lexOps.getD j ByteArray.empty).size ≤ 2 := by
  have : ∀ x ∈ lexOps, x.size ≤ 2 := by decide
  rw [List.getD_eq_getElem?_getD, List.getElem?_eq_getElem hj]
  exact this _ (List.getElem_mem hj)
theorem lexPfx_size {t op : ByteArray} (h : strings_HasPrefix.f t op = some true) : op.size ≤ t.size := by
  unfold strings_HasPrefix.f stringslite_HasPrefix.f at h
  by_cases h1 : (t.size : Int) ≥ (op.size : Int)
  · omega
  · rw [if_neg h1] at h
    simp at h
theorem lex_rest_calls2 (W : World) (g base : Nat) (s t : ByteArray) (at_ : Int) (l : List S33) (hS : LexS W g base s at_ l) (h0 : 0 ≤ at_) (h1 : at_ ≤ (s.size : Int)) (hm : s.size ≤ 1024) (ht : s.extract at_.toNat s.size = t) :
    Calls Try.prog 43 #[.pointer (some ⟨g, 0, none⟩)] W fun e w' => e = .returned (.string t) ∧ Drawn0 W w' := by
  subst ht
  exact lex_rest_calls W g base s at_ l hS h0 h1 hm
theorem LexS.drawn {W W1 : World} {g base : Nat} {s : ByteArray} {a : Int} {l : List S33} (h : LexS W g base s a l) (hd : Drawn0 W W1) : LexS W1 g base s a l := by
  obtain ⟨n, rfl⟩ := hd
  exact h.drewN n
set_option maxHeartbeats 8000000 in
set_option maxRecDepth 100000 in
theorem lex_lexer_word.calls (k : Nat) (W : World) (g base : Nat) (s : ByteArray) (a : Int) (l : List S33) (r1 : Bool) (r2 : Int) (r3 : List S33) (hS : LexS W g base s a l) (hBase : base ≤ W.heap.size) (h : lex_lexer_word.f k s a l = some (r1, r2, r3)) :
    Calls Try.prog 35 #[.pointer (some ⟨g, 0, none⟩)] W fun e w' => e = .returned (.bool r1) ∧ LexS w' g base s r2 r3 ∧ Below base W w' := by
  unfold lex_lexer_word.f at h
  split at h
  case isFalse => simp at h
  rename_i hcond
  obtain ⟨h0, h1, hm, hl⟩ := hcond
  obtain ⟨t, ht⟩ : ∃ t, s.extract a.toNat s.size = t := ⟨_, rfl⟩
  simp only [ht] at h
  have htz : t.size = s.size - a.toNat := by rw [← ht, ByteArray.size_extract]; omega
  have H := Aside0.mk h
  have HT := Aside0.mk ht
  have HL := Aside0.mk hl
  have HZ := Aside0.mk htz
  have HS := Aside0.mk hS
  have HBS := Aside0.mk hBase
  have HB := Aside0.mk (Below.refl base W)
  clear h ht hl htz hS hBase
  go_enter Try.func35, Try.ntmps35
  go_wp2_with (first
    | (go_at_call 43; refine (lex_rest_calls2 _ g base s t a l HS.out h0 (by omega) hm HT.out).mono ?_; rintro e w1 ⟨rfl, hd1⟩; have n1_ := Aside0.mk (HS.out.drawn hd1); have n2_ := Aside0.mk (HB.out.trans (hd1.below.mono HBS.out)); have n3_ := Aside0.mk (Nat.le_trans HBS.out hd1.below.size); clear HS HB HBS hd1; have HS := n1_; have HB := n2_; have HBS := n3_; clear n1_ n2_ n3_)
    | (go_at_call 19; refine (lex_Ops.calls lexOps _ lexOps_eq).mono ?_; rintro e w2 ⟨v2, rfl, ho2, hb2⟩; have n0_ := Aside0.mk (Kd.R_lower ho2 HBS.out); have n1_ := Aside0.mk (HS.out.below hb2); have n2_ := Aside0.mk (HB.out.trans (hb2.mono HBS.out)); have n3_ := Aside0.mk (Nat.le_trans HBS.out hb2.size); clear HS HB HBS hb2 ho2; have HO := n0_; have HS := n1_; have HB := n2_; have HBS := n3_; clear n0_ n1_ n2_ n3_; obtain ⟨A2, c2, rfl⟩ := Kd.R_slice HO.out))
  go_loopw [18] (fun i wr => ∃ j : Nat, j ≤ 15 ∧ i = .int .i64 j ∧ Aside0 (∀ q, q < j → ¬ strings_HasPrefix.f t (lexOps.getD q ByteArray.empty) = some true) ∧ Aside0 (Kd.R Kd.string 9 wr base (fun _ => True) (.slice A2 lexOps.length c2) lexOps) ∧ Aside0 (LexS wr g base s a l) ∧ Aside0 (Below base W wr) ∧ Aside0 (base ≤ wr.heap.size)) (fun i _ => 15 - (intOf i).toNat)
  case atStart => exact ⟨0, by omega, rfl, ⟨fun q hq => by omega⟩, HO, HS, HB, HBS⟩
  case round =>
    clear HO HS HB HBS
    obtain ⟨j, hj, rfl, HNO, HO, HS, HB, HBS⟩ := hrel
    by_cases hlt : j < 15
    · have hb1 : decide ((j : Int) < (lexOps.length : Int)) = true := decide_eq_true (by rw [lexOps_len]; omega)
      have hb2 : decide (j < lexOps.length) = true := decide_eq_true (by rw [lexOps_len]; omega)
      have hb3 : (j : Int) < (lexOps.length : Int) := by rw [lexOps_len]; omega
      obtain ⟨ad, e1, hx⟩ := Kd.at_string (Kd.R_reads' HO.out).2.2 (j : Int) (by omega) hb3
      cases e1
      obtain ⟨op, hop⟩ : ∃ op, lexOps.getD j ByteArray.empty = op := ⟨_, rfl⟩
      have hx' : wr.cell? (ad.add j) = some (.string op) := by rw [← hop]; exact hx
      have HOP := Aside0.mk hop
      clear hx hop
      obtain ⟨pb, hpb⟩ := lexPfx_some t op
      have HPB := Aside0.mk hpb
      clear hpb
      cases pb with
      | true =>
        have hH := H.out
        rw [lexOp_at (by rw [lexOps_len]; exact hlt) HOP.out HNO.out HPB.out] at hH
        simp only [Option.isSome_some, if_true, Option.getD_some, Option.some.injEq, Prod.mk.injEq] at hH
        obtain ⟨rfl, rfl, rfl⟩ := hH
        have hos : a + (op.size : Int) ≤ (s.size : Int) := by have := lexPfx_size HPB.out; have := HZ.out; omega
        go_wp2_with (first
          | (go_at_call 39; refine (strings_HasPrefix.calls t op true _ HPB.out).mono ?_; rintro e w5 ⟨rfl, hb_⟩; have n1_ := Aside0.mk (HS.out.drawn hb_); have n2_ := Aside0.mk (HB.out.trans (hb_.below.mono HBS.out)); have n3_ := Aside0.mk (Nat.le_trans HBS.out hb_.below.size); clear HS HB HBS hb_; have HS := n1_; have HB := n2_; have HBS := n3_; clear n1_ n2_ n3_)
          | (go_at_call 44; (with_reducible refine (lex_add_calls _ g base s a l 4 (op.size : Int) op HS.out HBS.out h0 (by omega) hos hm HL.out).mono ?_); rintro e w9 ⟨rfl, hS9, hB9⟩; have HS9 := Aside0.mk hS9; have HB9 := Aside0.mk (HB.out.trans hB9); clear hS9 hB9))
        go_ret
        exact ⟨rfl, HS9.out, HB9.out⟩
      | false =>
        go_wp2_with (go_at_call 39; refine (strings_HasPrefix.calls t op false _ HPB.out).mono ?_; rintro e w5 ⟨rfl, hb_⟩; have n1_ := Aside0.mk (HS.out.drawn hb_); have n2_ := Aside0.mk (HB.out.trans (hb_.below.mono HBS.out)); have n3_ := Aside0.mk (Nat.le_trans HBS.out hb_.below.size); have n4_ := Aside0.mk (Kd.R_below HO.out hb_.below); clear HO; clear HS HB HBS hb_; have HS := n1_; have HB := n2_; have HBS := n3_; clear n1_ n2_ n3_; have HO := n4_; clear n4_)
        go_roundw
        case measure => simp [intOf]; omega
        case rel =>
          refine ⟨j + 1, by omega, by go_num, ⟨fun q hq => ?_⟩, HO, HS, HB, HBS⟩
          rcases Nat.lt_or_ge q j with hqj | hqj
          · exact HNO.out q hqj
          · obtain rfl : q = j := by omega
            rw [HOP.out, HPB.out]
            simp
    · obtain rfl : j = 15 := by omega
      clear hlt
      have hb1 : decide (((15 : Nat) : Int) < (lexOps.length : Int)) = false := decide_eq_false (by rw [lexOps_len]; omega)
      have hb2 : decide (15 < lexOps.length) = false := decide_eq_false (by rw [lexOps_len]; omega)
      have hb4 : decide ((15 : Int) < (lexOps.length : Int)) = false := decide_eq_false (by rw [lexOps_len]; omega)
      have hH := H.out
      rw [lexOp_no (by rw [lexOps_len]; exact HNO.out)] at hH
      simp only [Option.isSome_none, Bool.false_eq_true, if_false] at hH
      obtain ⟨⟨q1, q2, q3⟩, hq, hH⟩ := Option.bind_eq_some_iff.mp hH
      have HQ := Aside0.mk hq
      clear hq H HNO HO
      cases q3 with
      | true =>
        simp only [if_true] at hH
        split at hH
        case isFalse => simp at hH
        rename_i hc
        obtain ⟨hc1, hc2⟩ := hc
        simp only [Option.some.injEq, Prod.mk.injEq] at hH
        obtain ⟨rfl, rfl, rfl⟩ := hH
        go_wp2_with (first
          | (go_at_call 25; refine (quote_Get.calls k t q1 q2 true _ HQ.out).mono ?_; rintro e w5 ⟨rfl, hb_⟩; have n1_ := Aside0.mk (HS.out.below hb_); have n2_ := Aside0.mk (HB.out.trans (hb_.mono HBS.out)); have n3_ := Aside0.mk (Nat.le_trans HBS.out hb_.size); clear HS HB HBS hb_; have HS := n1_; have HB := n2_; have HBS := n3_; clear n1_ n2_ n3_)
          | (go_at_call 44; (with_reducible refine (lex_add_calls _ g base s a l 2 q2 q1 HS.out HBS.out h0 hc1 hc2 hm HL.out).mono ?_); rintro e w9 ⟨rfl, hS9, hB9⟩; have HS9 := Aside0.mk hS9; have HB9 := Aside0.mk (HB.out.trans hB9); clear hS9 hB9))
        go_ret
        exact ⟨rfl, HS9.out, HB9.out⟩
      | false =>
        simp only [Bool.false_eq_true, if_false] at hH
        have ht1 : decide (0 < t.size) = true := decide_eq_true (by have := HZ.out; omega)
        have ht2 : decide (0 < (t.size : Int)) = true := decide_eq_true (by have := HZ.out; omega)
        have ht3 : 0 < t.size := by have := HZ.out; omega
        have hx0 : ∀ h : 0 < t.size, ((t[0]'h).toNat : Int) = bt t 0 := bt_at t 0
        obtain ⟨c1, hc1, hH⟩ := Option.bind_eq_some_iff.mp hH
        have HC1 := Aside0.mk hc1
        clear hc1
        have H := Aside0.mk hH
        clear hH
        by_cases hm45 : bt t 0 = 45
        · have hm1 : (bt t 0 == 45) = true := by first | (rw [hm45]; rfl) | exact beq_eq_false_iff_ne.mpr hm45
          have HM45 := Aside0.mk hm45
          clear hm45
          cases c1 with
          | true =>
            have hH := H.out
            simp only [if_true] at hH
            obtain ⟨n, hn, hH⟩ := Option.bind_eq_some_iff.mp hH
            have HN := Aside0.mk hn
            clear hn
            split at hH
            case isFalse => simp at hH
            rename_i hc
            obtain ⟨hc1, hc2⟩ := hc
            obtain ⟨b, hb, hH⟩ := Option.bind_eq_some_iff.mp hH
            have HNm := Aside0.mk hb
            clear hb H
            have hnt : n ≤ (t.size : Int) := by have := HZ.out; omega
            cases b with
            | true =>
              simp only [if_true, Option.some.injEq, Prod.mk.injEq] at hH
              obtain ⟨rfl, rfl, rfl⟩ := hH
              -- LEAF 1
              go_wp2_with (first
                | (go_at_call 25; refine (quote_Get.calls k t q1 q2 false _ HQ.out).mono ?_; rintro e w5 ⟨rfl, hb_⟩; have n1_ := Aside0.mk (HS.out.below hb_); have n2_ := Aside0.mk (HB.out.trans (hb_.mono HBS.out)); have n3_ := Aside0.mk (Nat.le_trans HBS.out hb_.size); clear HS HB HBS hb_; have HS := n1_; have HB := n2_; have HBS := n3_; clear n1_ n2_ n3_)
                | ((with_reducible refine gate_dst (N := 48) rfl ?_); (try (refine gate_guard (by rfl) ?_; dsimp only)); refine Kd.R_lit Kd.string _ 9 ?hg (N := 48) ?hd (xs := lexR1) (inner := [.string (⟨#[97, 122]⟩ : ByteArray), .string (⟨#[65, 90]⟩ : ByteArray), .string (⟨#[95]⟩ : ByteArray)]) (ok := fun _ => True) (okp := fun _ => True) ?hr ?hp (fun _ hk => hk) trivial (Below.refl _ _) (Nat.le_refl _) (by decide) ?_; (case hd => rfl); (case hg => rfl); (case hr => first | (go_simp; done) | (go_simp; rfl)); (case hp => exact (Reps.one (show Kd.M Kd.string _ _ _ (⟨#[97, 122]⟩ : ByteArray) [.string (⟨#[97, 122]⟩ : ByteArray)] from rfl) (Reps.one (show Kd.M Kd.string _ _ _ (⟨#[65, 90]⟩ : ByteArray) [.string (⟨#[65, 90]⟩ : ByteArray)] from rfl) (Reps.one (show Kd.M Kd.string _ _ _ (⟨#[95]⟩ : ByteArray) [.string (⟨#[95]⟩ : ByteArray)] from rfl) (Reps.none _ _))))); intro v_ w6 ho_ hb_ hg_ hnew_; clear hg_ hnew_; have n0_ := Aside0.mk ho_; have n1_ := Aside0.mk (HS.out.below hb_); have n2_ := Aside0.mk (HB.out.trans (hb_.mono HBS.out)); have n3_ := Aside0.mk (Nat.le_trans HBS.out hb_.size); clear HS HB HBS hb_ ho_; have HR1 := n0_; have HS := n1_; have HB := n2_; have HBS := n3_; clear n0_ n1_ n2_ n3_; obtain ⟨AHR1, cHR1, rfl⟩ := Kd.R_slice HR1.out)
                | (go_at_call 45; (with_reducible refine (lex_in.calls k (bt t 0) AHR1 cHR1 lexR1 true _ (Kd.R_reads' HR1.out).2.2 (Kd.R_reads' HR1.out).2.1 HC1.out).mono ?_); rintro e w7 ⟨rfl, hb_⟩; have n1_ := Aside0.mk (HS.out.drawn hb_); have n2_ := Aside0.mk (HB.out.trans (hb_.below.mono HBS.out)); have n3_ := Aside0.mk (Nat.le_trans HBS.out hb_.below.size); clear HS HB HBS hb_; have HS := n1_; have HB := n2_; have HBS := n3_; clear n1_ n2_ n3_)
                | ((with_reducible refine gate_dst (N := 51) rfl ?_); (try (refine gate_guard (by rfl) ?_; dsimp only)); refine Kd.R_lit Kd.string _ 9 ?hg (N := 51) ?hd (xs := lexR2) (inner := [.string (⟨#[97, 122]⟩ : ByteArray), .string (⟨#[65, 90]⟩ : ByteArray), .string (⟨#[48, 57]⟩ : ByteArray), .string (⟨#[95]⟩ : ByteArray)]) (ok := fun _ => True) (okp := fun _ => True) ?hr ?hp (fun _ hk => hk) trivial (Below.refl _ _) (Nat.le_refl _) (by decide) ?_; (case hd => rfl); (case hg => rfl); (case hr => first | (go_simp; done) | (go_simp; rfl)); (case hp => exact (Reps.one (show Kd.M Kd.string _ _ _ (⟨#[97, 122]⟩ : ByteArray) [.string (⟨#[97, 122]⟩ : ByteArray)] from rfl) (Reps.one (show Kd.M Kd.string _ _ _ (⟨#[65, 90]⟩ : ByteArray) [.string (⟨#[65, 90]⟩ : ByteArray)] from rfl) (Reps.one (show Kd.M Kd.string _ _ _ (⟨#[48, 57]⟩ : ByteArray) [.string (⟨#[48, 57]⟩ : ByteArray)] from rfl) (Reps.one (show Kd.M Kd.string _ _ _ (⟨#[95]⟩ : ByteArray) [.string (⟨#[95]⟩ : ByteArray)] from rfl) (Reps.none _ _)))))); intro v_ w6 ho_ hb_ hg_ hnew_; clear hg_ hnew_; have n0_ := Aside0.mk ho_; have n1_ := Aside0.mk (HS.out.below hb_); have n2_ := Aside0.mk (HB.out.trans (hb_.mono HBS.out)); have n3_ := Aside0.mk (Nat.le_trans HBS.out hb_.size); clear HS HB HBS hb_ ho_; have HR2 := n0_; have HS := n1_; have HB := n2_; have HBS := n3_; clear n0_ n1_ n2_ n3_; obtain ⟨AHR2, cHR2, rfl⟩ := Kd.R_slice HR2.out)
                | (go_at_call 46; (with_reducible refine (lex_while.calls k t AHR2 cHR2 lexR2 n _ (Kd.R_reads' HR2.out).2.2 (Kd.R_reads' HR2.out).2.1 HN.out).mono ?_); rintro e w8 ⟨rfl, hb_⟩; have n1_ := Aside0.mk (HS.out.drawn hb_); have n2_ := Aside0.mk (HB.out.trans (hb_.below.mono HBS.out)); have n3_ := Aside0.mk (Nat.le_trans HBS.out hb_.below.size); clear HS HB HBS hb_; have HS := n1_; have HB := n2_; have HBS := n3_; clear n1_ n2_ n3_)
                | (go_at_call 47; refine (label_Name.calls k (t.extract 0 n.toNat) true _ HNm.out).mono ?_; rintro e w5 ⟨rfl, hb_⟩; have n1_ := Aside0.mk (HS.out.below hb_); have n2_ := Aside0.mk (HB.out.trans (hb_.mono HBS.out)); have n3_ := Aside0.mk (Nat.le_trans HBS.out hb_.size); clear HS HB HBS hb_; have HS := n1_; have HB := n2_; have HBS := n3_; clear n1_ n2_ n3_)
                | (go_at_call 44; (with_reducible refine (lex_add_calls _ g base s a l 1 n (t.extract 0 n.toNat) HS.out HBS.out h0 hc1 hc2 hm HL.out).mono ?_); rintro e w9 ⟨rfl, hS9, hB9⟩; have HS9 := Aside0.mk hS9; have HB9 := Aside0.mk (HB.out.trans hB9); clear hS9 hB9))
              go_ret
              exact ⟨rfl, HS9.out, HB9.out⟩
            | false =>
              simp only [Bool.false_eq_true, if_false, Option.some.injEq, Prod.mk.injEq] at hH
              obtain ⟨rfl, rfl, rfl⟩ := hH
              -- LEAF 2
              go_wp2_with (first
                | (go_at_call 25; refine (quote_Get.calls k t q1 q2 false _ HQ.out).mono ?_; rintro e w5 ⟨rfl, hb_⟩; have n1_ := Aside0.mk (HS.out.below hb_); have n2_ := Aside0.mk (HB.out.trans (hb_.mono HBS.out)); have n3_ := Aside0.mk (Nat.le_trans HBS.out hb_.size); clear HS HB HBS hb_; have HS := n1_; have HB := n2_; have HBS := n3_; clear n1_ n2_ n3_)
                | ((with_reducible refine gate_dst (N := 48) rfl ?_); (try (refine gate_guard (by rfl) ?_; dsimp only)); refine Kd.R_lit Kd.string _ 9 ?hg (N := 48) ?hd (xs := lexR1) (inner := [.string (⟨#[97, 122]⟩ : ByteArray), .string (⟨#[65, 90]⟩ : ByteArray), .string (⟨#[95]⟩ : ByteArray)]) (ok := fun _ => True) (okp := fun _ => True) ?hr ?hp (fun _ hk => hk) trivial (Below.refl _ _) (Nat.le_refl _) (by decide) ?_; (case hd => rfl); (case hg => rfl); (case hr => first | (go_simp; done) | (go_simp; rfl)); (case hp => exact (Reps.one (show Kd.M Kd.string _ _ _ (⟨#[97, 122]⟩ : ByteArray) [.string (⟨#[97, 122]⟩ : ByteArray)] from rfl) (Reps.one (show Kd.M Kd.string _ _ _ (⟨#[65, 90]⟩ : ByteArray) [.string (⟨#[65, 90]⟩ : ByteArray)] from rfl) (Reps.one (show Kd.M Kd.string _ _ _ (⟨#[95]⟩ : ByteArray) [.string (⟨#[95]⟩ : ByteArray)] from rfl) (Reps.none _ _))))); intro v_ w6 ho_ hb_ hg_ hnew_; clear hg_ hnew_; have n0_ := Aside0.mk ho_; have n1_ := Aside0.mk (HS.out.below hb_); have n2_ := Aside0.mk (HB.out.trans (hb_.mono HBS.out)); have n3_ := Aside0.mk (Nat.le_trans HBS.out hb_.size); clear HS HB HBS hb_ ho_; have HR1 := n0_; have HS := n1_; have HB := n2_; have HBS := n3_; clear n0_ n1_ n2_ n3_; obtain ⟨AHR1, cHR1, rfl⟩ := Kd.R_slice HR1.out)
                | (go_at_call 45; (with_reducible refine (lex_in.calls k (bt t 0) AHR1 cHR1 lexR1 true _ (Kd.R_reads' HR1.out).2.2 (Kd.R_reads' HR1.out).2.1 HC1.out).mono ?_); rintro e w7 ⟨rfl, hb_⟩; have n1_ := Aside0.mk (HS.out.drawn hb_); have n2_ := Aside0.mk (HB.out.trans (hb_.below.mono HBS.out)); have n3_ := Aside0.mk (Nat.le_trans HBS.out hb_.below.size); clear HS HB HBS hb_; have HS := n1_; have HB := n2_; have HBS := n3_; clear n1_ n2_ n3_)
                | ((with_reducible refine gate_dst (N := 51) rfl ?_); (try (refine gate_guard (by rfl) ?_; dsimp only)); refine Kd.R_lit Kd.string _ 9 ?hg (N := 51) ?hd (xs := lexR2) (inner := [.string (⟨#[97, 122]⟩ : ByteArray), .string (⟨#[65, 90]⟩ : ByteArray), .string (⟨#[48, 57]⟩ : ByteArray), .string (⟨#[95]⟩ : ByteArray)]) (ok := fun _ => True) (okp := fun _ => True) ?hr ?hp (fun _ hk => hk) trivial (Below.refl _ _) (Nat.le_refl _) (by decide) ?_; (case hd => rfl); (case hg => rfl); (case hr => first | (go_simp; done) | (go_simp; rfl)); (case hp => exact (Reps.one (show Kd.M Kd.string _ _ _ (⟨#[97, 122]⟩ : ByteArray) [.string (⟨#[97, 122]⟩ : ByteArray)] from rfl) (Reps.one (show Kd.M Kd.string _ _ _ (⟨#[65, 90]⟩ : ByteArray) [.string (⟨#[65, 90]⟩ : ByteArray)] from rfl) (Reps.one (show Kd.M Kd.string _ _ _ (⟨#[48, 57]⟩ : ByteArray) [.string (⟨#[48, 57]⟩ : ByteArray)] from rfl) (Reps.one (show Kd.M Kd.string _ _ _ (⟨#[95]⟩ : ByteArray) [.string (⟨#[95]⟩ : ByteArray)] from rfl) (Reps.none _ _)))))); intro v_ w6 ho_ hb_ hg_ hnew_; clear hg_ hnew_; have n0_ := Aside0.mk ho_; have n1_ := Aside0.mk (HS.out.below hb_); have n2_ := Aside0.mk (HB.out.trans (hb_.mono HBS.out)); have n3_ := Aside0.mk (Nat.le_trans HBS.out hb_.size); clear HS HB HBS hb_ ho_; have HR2 := n0_; have HS := n1_; have HB := n2_; have HBS := n3_; clear n0_ n1_ n2_ n3_; obtain ⟨AHR2, cHR2, rfl⟩ := Kd.R_slice HR2.out)
                | (go_at_call 46; (with_reducible refine (lex_while.calls k t AHR2 cHR2 lexR2 n _ (Kd.R_reads' HR2.out).2.2 (Kd.R_reads' HR2.out).2.1 HN.out).mono ?_); rintro e w8 ⟨rfl, hb_⟩; have n1_ := Aside0.mk (HS.out.drawn hb_); have n2_ := Aside0.mk (HB.out.trans (hb_.below.mono HBS.out)); have n3_ := Aside0.mk (Nat.le_trans HBS.out hb_.below.size); clear HS HB HBS hb_; have HS := n1_; have HB := n2_; have HBS := n3_; clear n1_ n2_ n3_)
                | (go_at_call 47; refine (label_Name.calls k (t.extract 0 n.toNat) false _ HNm.out).mono ?_; rintro e w5 ⟨rfl, hb_⟩; have n1_ := Aside0.mk (HS.out.below hb_); have n2_ := Aside0.mk (HB.out.trans (hb_.mono HBS.out)); have n3_ := Aside0.mk (Nat.le_trans HBS.out hb_.size); clear HS HB HBS hb_; have HS := n1_; have HB := n2_; have HBS := n3_; clear n1_ n2_ n3_))
              go_ret
              exact ⟨rfl, HS.out, HB.out⟩
          | false =>
            have hH := H.out
            simp only [Bool.false_eq_true, if_false] at hH
            rw [if_pos HM45.out] at hH
            split at hH
            · rename_i hs1
              have hs2 : decide (1 < t.size) = true := decide_eq_true (by have := HZ.out; omega)
              have hs3 : decide ((1 : Int) < (t.size : Int)) = true := decide_eq_true (by have := HZ.out; omega)
              have hs4 : 1 < t.size := by have := HZ.out; omega
              have hx1 : ∀ h : 1 < t.size, ((t[1]'h).toNat : Int) = bt t 1 := bt_at t 1
              obtain ⟨c3, hc3, hH⟩ := Option.bind_eq_some_iff.mp hH
              have HC3 := Aside0.mk hc3
              clear hc3 H
              cases c3 with
              | true =>
                simp only [if_true] at hH
                obtain ⟨m, hmm, hH⟩ := Option.bind_eq_some_iff.mp hH
                have HM := Aside0.mk hmm
                clear hmm
                split at hH
                case isFalse => simp at hH
                rename_i hc
                obtain ⟨hc1, hc2⟩ := hc
                have hnt : 1 + m ≤ (t.size : Int) := by have := HZ.out; omega
                have hn0 : 0 ≤ 1 + m := by omega
                have hn9 : 1 + m ≤ 1024 := by have := HZ.out; omega
                simp only [Option.some.injEq, Prod.mk.injEq] at hH
                obtain ⟨rfl, rfl, rfl⟩ := hH
                -- LEAF 3
                go_wp2_with (first
                  | (go_at_call 25; refine (quote_Get.calls k t q1 q2 false _ HQ.out).mono ?_; rintro e w5 ⟨rfl, hb_⟩; have n1_ := Aside0.mk (HS.out.below hb_); have n2_ := Aside0.mk (HB.out.trans (hb_.mono HBS.out)); have n3_ := Aside0.mk (Nat.le_trans HBS.out hb_.size); clear HS HB HBS hb_; have HS := n1_; have HB := n2_; have HBS := n3_; clear n1_ n2_ n3_)
                  | ((with_reducible refine gate_dst (N := 48) rfl ?_); (try (refine gate_guard (by rfl) ?_; dsimp only)); refine Kd.R_lit Kd.string _ 9 ?hg (N := 48) ?hd (xs := lexR1) (inner := [.string (⟨#[97, 122]⟩ : ByteArray), .string (⟨#[65, 90]⟩ : ByteArray), .string (⟨#[95]⟩ : ByteArray)]) (ok := fun _ => True) (okp := fun _ => True) ?hr ?hp (fun _ hk => hk) trivial (Below.refl _ _) (Nat.le_refl _) (by decide) ?_; (case hd => rfl); (case hg => rfl); (case hr => first | (go_simp; done) | (go_simp; rfl)); (case hp => exact (Reps.one (show Kd.M Kd.string _ _ _ (⟨#[97, 122]⟩ : ByteArray) [.string (⟨#[97, 122]⟩ : ByteArray)] from rfl) (Reps.one (show Kd.M Kd.string _ _ _ (⟨#[65, 90]⟩ : ByteArray) [.string (⟨#[65, 90]⟩ : ByteArray)] from rfl) (Reps.one (show Kd.M Kd.string _ _ _ (⟨#[95]⟩ : ByteArray) [.string (⟨#[95]⟩ : ByteArray)] from rfl) (Reps.none _ _))))); intro v_ w6 ho_ hb_ hg_ hnew_; clear hg_ hnew_; have n0_ := Aside0.mk ho_; have n1_ := Aside0.mk (HS.out.below hb_); have n2_ := Aside0.mk (HB.out.trans (hb_.mono HBS.out)); have n3_ := Aside0.mk (Nat.le_trans HBS.out hb_.size); clear HS HB HBS hb_ ho_; have HR1 := n0_; have HS := n1_; have HB := n2_; have HBS := n3_; clear n0_ n1_ n2_ n3_; obtain ⟨AHR1, cHR1, rfl⟩ := Kd.R_slice HR1.out)
                  | (go_at_call 45; (with_reducible refine (lex_in.calls k (bt t 0) AHR1 cHR1 lexR1 false _ (Kd.R_reads' HR1.out).2.2 (Kd.R_reads' HR1.out).2.1 HC1.out).mono ?_); rintro e w7 ⟨rfl, hb_⟩; have n1_ := Aside0.mk (HS.out.drawn hb_); have n2_ := Aside0.mk (HB.out.trans (hb_.below.mono HBS.out)); have n3_ := Aside0.mk (Nat.le_trans HBS.out hb_.below.size); clear HS HB HBS hb_; have HS := n1_; have HB := n2_; have HBS := n3_; clear n1_ n2_ n3_)
                  | ((with_reducible refine gate_dst (N := 74) rfl ?_); (try (refine gate_guard (by rfl) ?_; dsimp only)); refine Kd.R_lit Kd.string _ 9 ?hg (N := 74) ?hd (xs := lexR3) (inner := [.string (⟨#[48, 57]⟩ : ByteArray)]) (ok := fun _ => True) (okp := fun _ => True) ?hr ?hp (fun _ hk => hk) trivial (Below.refl _ _) (Nat.le_refl _) (by decide) ?_; (case hd => rfl); (case hg => rfl); (case hr => first | (go_simp; done) | (go_simp; rfl)); (case hp => exact (Reps.one (show Kd.M Kd.string _ _ _ (⟨#[48, 57]⟩ : ByteArray) [.string (⟨#[48, 57]⟩ : ByteArray)] from rfl) (Reps.none _ _))); intro v_ w6 ho_ hb_ hg_ hnew_; clear hg_ hnew_; have n0_ := Aside0.mk ho_; have n1_ := Aside0.mk (HS.out.below hb_); have n2_ := Aside0.mk (HB.out.trans (hb_.mono HBS.out)); have n3_ := Aside0.mk (Nat.le_trans HBS.out hb_.size); clear HS HB HBS hb_ ho_; have HR3 := n0_; have HS := n1_; have HB := n2_; have HBS := n3_; clear n0_ n1_ n2_ n3_; obtain ⟨AHR3, cHR3, rfl⟩ := Kd.R_slice HR3.out)
                  | (go_at_call 45; (with_reducible refine (lex_in.calls k (bt t 1) AHR3 cHR3 lexR3 true _ (Kd.R_reads' HR3.out).2.2 (Kd.R_reads' HR3.out).2.1 HC3.out).mono ?_); rintro e w7 ⟨rfl, hb_⟩; have n1_ := Aside0.mk (HS.out.drawn hb_); have n2_ := Aside0.mk (HB.out.trans (hb_.below.mono HBS.out)); have n3_ := Aside0.mk (Nat.le_trans HBS.out hb_.below.size); clear HS HB HBS hb_; have HS := n1_; have HB := n2_; have HBS := n3_; clear n1_ n2_ n3_)
                  | ((with_reducible refine gate_dst (N := 81) rfl ?_); (try (refine gate_guard (by rfl) ?_; dsimp only)); refine Kd.R_lit Kd.string _ 9 ?hg (N := 81) ?hd (xs := lexR4) (inner := [.string (⟨#[97, 122]⟩ : ByteArray), .string (⟨#[65, 90]⟩ : ByteArray), .string (⟨#[48, 57]⟩ : ByteArray)]) (ok := fun _ => True) (okp := fun _ => True) ?hr ?hp (fun _ hk => hk) trivial (Below.refl _ _) (Nat.le_refl _) (by decide) ?_; (case hd => rfl); (case hg => rfl); (case hr => first | (go_simp; done) | (go_simp; rfl)); (case hp => exact (Reps.one (show Kd.M Kd.string _ _ _ (⟨#[97, 122]⟩ : ByteArray) [.string (⟨#[97, 122]⟩ : ByteArray)] from rfl) (Reps.one (show Kd.M Kd.string _ _ _ (⟨#[65, 90]⟩ : ByteArray) [.string (⟨#[65, 90]⟩ : ByteArray)] from rfl) (Reps.one (show Kd.M Kd.string _ _ _ (⟨#[48, 57]⟩ : ByteArray) [.string (⟨#[48, 57]⟩ : ByteArray)] from rfl) (Reps.none _ _))))); intro v_ w6 ho_ hb_ hg_ hnew_; clear hg_ hnew_; have n0_ := Aside0.mk ho_; have n1_ := Aside0.mk (HS.out.below hb_); have n2_ := Aside0.mk (HB.out.trans (hb_.mono HBS.out)); have n3_ := Aside0.mk (Nat.le_trans HBS.out hb_.size); clear HS HB HBS hb_ ho_; have HR4 := n0_; have HS := n1_; have HB := n2_; have HBS := n3_; clear n0_ n1_ n2_ n3_; obtain ⟨AHR4, cHR4, rfl⟩ := Kd.R_slice HR4.out)
                  | (go_at_call 46; (with_reducible refine (lex_while.calls k (t.extract 1 t.size) AHR4 cHR4 lexR4 m _ (Kd.R_reads' HR4.out).2.2 (Kd.R_reads' HR4.out).2.1 HM.out).mono ?_); rintro e w8 ⟨rfl, hb_⟩; have n1_ := Aside0.mk (HS.out.drawn hb_); have n2_ := Aside0.mk (HB.out.trans (hb_.below.mono HBS.out)); have n3_ := Aside0.mk (Nat.le_trans HBS.out hb_.below.size); clear HS HB HBS hb_; have HS := n1_; have HB := n2_; have HBS := n3_; clear n1_ n2_ n3_)
                  | (go_at_call 44; (with_reducible refine (lex_add_calls _ g base s a l 3 (1 + m) (t.extract 0 (1 + m).toNat) HS.out HBS.out h0 hn0 hc2 hm HL.out).mono ?_); rintro e w9 ⟨rfl, hS9, hB9⟩; have HS9 := Aside0.mk hS9; have HB9 := Aside0.mk (HB.out.trans hB9); clear hS9 hB9))
                go_ret
                exact ⟨rfl, HS9.out, HB9.out⟩
              | false =>
                simp only [Bool.false_eq_true, if_false, Option.some.injEq, Prod.mk.injEq] at hH
                obtain ⟨rfl, rfl, rfl⟩ := hH
                -- LEAF 4
                go_wp2_with (first
                  | (go_at_call 25; refine (quote_Get.calls k t q1 q2 false _ HQ.out).mono ?_; rintro e w5 ⟨rfl, hb_⟩; have n1_ := Aside0.mk (HS.out.below hb_); have n2_ := Aside0.mk (HB.out.trans (hb_.mono HBS.out)); have n3_ := Aside0.mk (Nat.le_trans HBS.out hb_.size); clear HS HB HBS hb_; have HS := n1_; have HB := n2_; have HBS := n3_; clear n1_ n2_ n3_)
                  | ((with_reducible refine gate_dst (N := 48) rfl ?_); (try (refine gate_guard (by rfl) ?_; dsimp only)); refine Kd.R_lit Kd.string _ 9 ?hg (N := 48) ?hd (xs := lexR1) (inner := [.string (⟨#[97, 122]⟩ : ByteArray), .string (⟨#[65, 90]⟩ : ByteArray), .string (⟨#[95]⟩ : ByteArray)]) (ok := fun _ => True) (okp := fun _ => True) ?hr ?hp (fun _ hk => hk) trivial (Below.refl _ _) (Nat.le_refl _) (by decide) ?_; (case hd => rfl); (case hg => rfl); (case hr => first | (go_simp; done) | (go_simp; rfl)); (case hp => exact (Reps.one (show Kd.M Kd.string _ _ _ (⟨#[97, 122]⟩ : ByteArray) [.string (⟨#[97, 122]⟩ : ByteArray)] from rfl) (Reps.one (show Kd.M Kd.string _ _ _ (⟨#[65, 90]⟩ : ByteArray) [.string (⟨#[65, 90]⟩ : ByteArray)] from rfl) (Reps.one (show Kd.M Kd.string _ _ _ (⟨#[95]⟩ : ByteArray) [.string (⟨#[95]⟩ : ByteArray)] from rfl) (Reps.none _ _))))); intro v_ w6 ho_ hb_ hg_ hnew_; clear hg_ hnew_; have n0_ := Aside0.mk ho_; have n1_ := Aside0.mk (HS.out.below hb_); have n2_ := Aside0.mk (HB.out.trans (hb_.mono HBS.out)); have n3_ := Aside0.mk (Nat.le_trans HBS.out hb_.size); clear HS HB HBS hb_ ho_; have HR1 := n0_; have HS := n1_; have HB := n2_; have HBS := n3_; clear n0_ n1_ n2_ n3_; obtain ⟨AHR1, cHR1, rfl⟩ := Kd.R_slice HR1.out)
                  | (go_at_call 45; (with_reducible refine (lex_in.calls k (bt t 0) AHR1 cHR1 lexR1 false _ (Kd.R_reads' HR1.out).2.2 (Kd.R_reads' HR1.out).2.1 HC1.out).mono ?_); rintro e w7 ⟨rfl, hb_⟩; have n1_ := Aside0.mk (HS.out.drawn hb_); have n2_ := Aside0.mk (HB.out.trans (hb_.below.mono HBS.out)); have n3_ := Aside0.mk (Nat.le_trans HBS.out hb_.below.size); clear HS HB HBS hb_; have HS := n1_; have HB := n2_; have HBS := n3_; clear n1_ n2_ n3_)
                  | ((with_reducible refine gate_dst (N := 74) rfl ?_); (try (refine gate_guard (by rfl) ?_; dsimp only)); refine Kd.R_lit Kd.string _ 9 ?hg (N := 74) ?hd (xs := lexR3) (inner := [.string (⟨#[48, 57]⟩ : ByteArray)]) (ok := fun _ => True) (okp := fun _ => True) ?hr ?hp (fun _ hk => hk) trivial (Below.refl _ _) (Nat.le_refl _) (by decide) ?_; (case hd => rfl); (case hg => rfl); (case hr => first | (go_simp; done) | (go_simp; rfl)); (case hp => exact (Reps.one (show Kd.M Kd.string _ _ _ (⟨#[48, 57]⟩ : ByteArray) [.string (⟨#[48, 57]⟩ : ByteArray)] from rfl) (Reps.none _ _))); intro v_ w6 ho_ hb_ hg_ hnew_; clear hg_ hnew_; have n0_ := Aside0.mk ho_; have n1_ := Aside0.mk (HS.out.below hb_); have n2_ := Aside0.mk (HB.out.trans (hb_.mono HBS.out)); have n3_ := Aside0.mk (Nat.le_trans HBS.out hb_.size); clear HS HB HBS hb_ ho_; have HR3 := n0_; have HS := n1_; have HB := n2_; have HBS := n3_; clear n0_ n1_ n2_ n3_; obtain ⟨AHR3, cHR3, rfl⟩ := Kd.R_slice HR3.out)
                  | (go_at_call 45; (with_reducible refine (lex_in.calls k (bt t 1) AHR3 cHR3 lexR3 false _ (Kd.R_reads' HR3.out).2.2 (Kd.R_reads' HR3.out).2.1 HC3.out).mono ?_); rintro e w7 ⟨rfl, hb_⟩; have n1_ := Aside0.mk (HS.out.drawn hb_); have n2_ := Aside0.mk (HB.out.trans (hb_.below.mono HBS.out)); have n3_ := Aside0.mk (Nat.le_trans HBS.out hb_.below.size); clear HS HB HBS hb_; have HS := n1_; have HB := n2_; have HBS := n3_; clear n1_ n2_ n3_))
                go_ret
                exact ⟨rfl, HS.out, HB.out⟩
            · rename_i hs1
              have hs2 : decide (1 < t.size) = false := decide_eq_false (by have := HZ.out; omega)
              have hs3 : decide ((1 : Int) < (t.size : Int)) = false := decide_eq_false (by have := HZ.out; omega)
              simp only [Option.some.injEq, Prod.mk.injEq] at hH
              obtain ⟨rfl, rfl, rfl⟩ := hH
              -- LEAF 5
              go_wp2_with (first
                | (go_at_call 25; refine (quote_Get.calls k t q1 q2 false _ HQ.out).mono ?_; rintro e w5 ⟨rfl, hb_⟩; have n1_ := Aside0.mk (HS.out.below hb_); have n2_ := Aside0.mk (HB.out.trans (hb_.mono HBS.out)); have n3_ := Aside0.mk (Nat.le_trans HBS.out hb_.size); clear HS HB HBS hb_; have HS := n1_; have HB := n2_; have HBS := n3_; clear n1_ n2_ n3_)
                | ((with_reducible refine gate_dst (N := 48) rfl ?_); (try (refine gate_guard (by rfl) ?_; dsimp only)); refine Kd.R_lit Kd.string _ 9 ?hg (N := 48) ?hd (xs := lexR1) (inner := [.string (⟨#[97, 122]⟩ : ByteArray), .string (⟨#[65, 90]⟩ : ByteArray), .string (⟨#[95]⟩ : ByteArray)]) (ok := fun _ => True) (okp := fun _ => True) ?hr ?hp (fun _ hk => hk) trivial (Below.refl _ _) (Nat.le_refl _) (by decide) ?_; (case hd => rfl); (case hg => rfl); (case hr => first | (go_simp; done) | (go_simp; rfl)); (case hp => exact (Reps.one (show Kd.M Kd.string _ _ _ (⟨#[97, 122]⟩ : ByteArray) [.string (⟨#[97, 122]⟩ : ByteArray)] from rfl) (Reps.one (show Kd.M Kd.string _ _ _ (⟨#[65, 90]⟩ : ByteArray) [.string (⟨#[65, 90]⟩ : ByteArray)] from rfl) (Reps.one (show Kd.M Kd.string _ _ _ (⟨#[95]⟩ : ByteArray) [.string (⟨#[95]⟩ : ByteArray)] from rfl) (Reps.none _ _))))); intro v_ w6 ho_ hb_ hg_ hnew_; clear hg_ hnew_; have n0_ := Aside0.mk ho_; have n1_ := Aside0.mk (HS.out.below hb_); have n2_ := Aside0.mk (HB.out.trans (hb_.mono HBS.out)); have n3_ := Aside0.mk (Nat.le_trans HBS.out hb_.size); clear HS HB HBS hb_ ho_; have HR1 := n0_; have HS := n1_; have HB := n2_; have HBS := n3_; clear n0_ n1_ n2_ n3_; obtain ⟨AHR1, cHR1, rfl⟩ := Kd.R_slice HR1.out)
                | (go_at_call 45; (with_reducible refine (lex_in.calls k (bt t 0) AHR1 cHR1 lexR1 false _ (Kd.R_reads' HR1.out).2.2 (Kd.R_reads' HR1.out).2.1 HC1.out).mono ?_); rintro e w7 ⟨rfl, hb_⟩; have n1_ := Aside0.mk (HS.out.drawn hb_); have n2_ := Aside0.mk (HB.out.trans (hb_.below.mono HBS.out)); have n3_ := Aside0.mk (Nat.le_trans HBS.out hb_.below.size); clear HS HB HBS hb_; have HS := n1_; have HB := n2_; have HBS := n3_; clear n1_ n2_ n3_))
              go_ret
              exact ⟨rfl, HS.out, HB.out⟩
        · have hm1 : (bt t 0 == 45) = false := by first | (rw [hm45]; rfl) | exact beq_eq_false_iff_ne.mpr hm45
          have HM45 := Aside0.mk hm45
          clear hm45
          cases c1 with
          | true =>
            have hH := H.out
            simp only [if_true] at hH
            obtain ⟨n, hn, hH⟩ := Option.bind_eq_some_iff.mp hH
            have HN := Aside0.mk hn
            clear hn
            split at hH
            case isFalse => simp at hH
            rename_i hc
            obtain ⟨hc1, hc2⟩ := hc
            obtain ⟨b, hb, hH⟩ := Option.bind_eq_some_iff.mp hH
            have HNm := Aside0.mk hb
            clear hb H
            have hnt : n ≤ (t.size : Int) := by have := HZ.out; omega
            cases b with
            | true =>
              simp only [if_true, Option.some.injEq, Prod.mk.injEq] at hH
              obtain ⟨rfl, rfl, rfl⟩ := hH
              -- LEAF 6
              go_wp2_with (first
                | (go_at_call 25; refine (quote_Get.calls k t q1 q2 false _ HQ.out).mono ?_; rintro e w5 ⟨rfl, hb_⟩; have n1_ := Aside0.mk (HS.out.below hb_); have n2_ := Aside0.mk (HB.out.trans (hb_.mono HBS.out)); have n3_ := Aside0.mk (Nat.le_trans HBS.out hb_.size); clear HS HB HBS hb_; have HS := n1_; have HB := n2_; have HBS := n3_; clear n1_ n2_ n3_)
                | ((with_reducible refine gate_dst (N := 48) rfl ?_); (try (refine gate_guard (by rfl) ?_; dsimp only)); refine Kd.R_lit Kd.string _ 9 ?hg (N := 48) ?hd (xs := lexR1) (inner := [.string (⟨#[97, 122]⟩ : ByteArray), .string (⟨#[65, 90]⟩ : ByteArray), .string (⟨#[95]⟩ : ByteArray)]) (ok := fun _ => True) (okp := fun _ => True) ?hr ?hp (fun _ hk => hk) trivial (Below.refl _ _) (Nat.le_refl _) (by decide) ?_; (case hd => rfl); (case hg => rfl); (case hr => first | (go_simp; done) | (go_simp; rfl)); (case hp => exact (Reps.one (show Kd.M Kd.string _ _ _ (⟨#[97, 122]⟩ : ByteArray) [.string (⟨#[97, 122]⟩ : ByteArray)] from rfl) (Reps.one (show Kd.M Kd.string _ _ _ (⟨#[65, 90]⟩ : ByteArray) [.string (⟨#[65, 90]⟩ : ByteArray)] from rfl) (Reps.one (show Kd.M Kd.string _ _ _ (⟨#[95]⟩ : ByteArray) [.string (⟨#[95]⟩ : ByteArray)] from rfl) (Reps.none _ _))))); intro v_ w6 ho_ hb_ hg_ hnew_; clear hg_ hnew_; have n0_ := Aside0.mk ho_; have n1_ := Aside0.mk (HS.out.below hb_); have n2_ := Aside0.mk (HB.out.trans (hb_.mono HBS.out)); have n3_ := Aside0.mk (Nat.le_trans HBS.out hb_.size); clear HS HB HBS hb_ ho_; have HR1 := n0_; have HS := n1_; have HB := n2_; have HBS := n3_; clear n0_ n1_ n2_ n3_; obtain ⟨AHR1, cHR1, rfl⟩ := Kd.R_slice HR1.out)
                | (go_at_call 45; (with_reducible refine (lex_in.calls k (bt t 0) AHR1 cHR1 lexR1 true _ (Kd.R_reads' HR1.out).2.2 (Kd.R_reads' HR1.out).2.1 HC1.out).mono ?_); rintro e w7 ⟨rfl, hb_⟩; have n1_ := Aside0.mk (HS.out.drawn hb_); have n2_ := Aside0.mk (HB.out.trans (hb_.below.mono HBS.out)); have n3_ := Aside0.mk (Nat.le_trans HBS.out hb_.below.size); clear HS HB HBS hb_; have HS := n1_; have HB := n2_; have HBS := n3_; clear n1_ n2_ n3_)
                | ((with_reducible refine gate_dst (N := 51) rfl ?_); (try (refine gate_guard (by rfl) ?_; dsimp only)); refine Kd.R_lit Kd.string _ 9 ?hg (N := 51) ?hd (xs := lexR2) (inner := [.string (⟨#[97, 122]⟩ : ByteArray), .string (⟨#[65, 90]⟩ : ByteArray), .string (⟨#[48, 57]⟩ : ByteArray), .string (⟨#[95]⟩ : ByteArray)]) (ok := fun _ => True) (okp := fun _ => True) ?hr ?hp (fun _ hk => hk) trivial (Below.refl _ _) (Nat.le_refl _) (by decide) ?_; (case hd => rfl); (case hg => rfl); (case hr => first | (go_simp; done) | (go_simp; rfl)); (case hp => exact (Reps.one (show Kd.M Kd.string _ _ _ (⟨#[97, 122]⟩ : ByteArray) [.string (⟨#[97, 122]⟩ : ByteArray)] from rfl) (Reps.one (show Kd.M Kd.string _ _ _ (⟨#[65, 90]⟩ : ByteArray) [.string (⟨#[65, 90]⟩ : ByteArray)] from rfl) (Reps.one (show Kd.M Kd.string _ _ _ (⟨#[48, 57]⟩ : ByteArray) [.string (⟨#[48, 57]⟩ : ByteArray)] from rfl) (Reps.one (show Kd.M Kd.string _ _ _ (⟨#[95]⟩ : ByteArray) [.string (⟨#[95]⟩ : ByteArray)] from rfl) (Reps.none _ _)))))); intro v_ w6 ho_ hb_ hg_ hnew_; clear hg_ hnew_; have n0_ := Aside0.mk ho_; have n1_ := Aside0.mk (HS.out.below hb_); have n2_ := Aside0.mk (HB.out.trans (hb_.mono HBS.out)); have n3_ := Aside0.mk (Nat.le_trans HBS.out hb_.size); clear HS HB HBS hb_ ho_; have HR2 := n0_; have HS := n1_; have HB := n2_; have HBS := n3_; clear n0_ n1_ n2_ n3_; obtain ⟨AHR2, cHR2, rfl⟩ := Kd.R_slice HR2.out)
                | (go_at_call 46; (with_reducible refine (lex_while.calls k t AHR2 cHR2 lexR2 n _ (Kd.R_reads' HR2.out).2.2 (Kd.R_reads' HR2.out).2.1 HN.out).mono ?_); rintro e w8 ⟨rfl, hb_⟩; have n1_ := Aside0.mk (HS.out.drawn hb_); have n2_ := Aside0.mk (HB.out.trans (hb_.below.mono HBS.out)); have n3_ := Aside0.mk (Nat.le_trans HBS.out hb_.below.size); clear HS HB HBS hb_; have HS := n1_; have HB := n2_; have HBS := n3_; clear n1_ n2_ n3_)
                | (go_at_call 47; refine (label_Name.calls k (t.extract 0 n.toNat) true _ HNm.out).mono ?_; rintro e w5 ⟨rfl, hb_⟩; have n1_ := Aside0.mk (HS.out.below hb_); have n2_ := Aside0.mk (HB.out.trans (hb_.mono HBS.out)); have n3_ := Aside0.mk (Nat.le_trans HBS.out hb_.size); clear HS HB HBS hb_; have HS := n1_; have HB := n2_; have HBS := n3_; clear n1_ n2_ n3_)
                | (go_at_call 44; (with_reducible refine (lex_add_calls _ g base s a l 1 n (t.extract 0 n.toNat) HS.out HBS.out h0 hc1 hc2 hm HL.out).mono ?_); rintro e w9 ⟨rfl, hS9, hB9⟩; have HS9 := Aside0.mk hS9; have HB9 := Aside0.mk (HB.out.trans hB9); clear hS9 hB9))
              go_ret
              exact ⟨rfl, HS9.out, HB9.out⟩
            | false =>
              simp only [Bool.false_eq_true, if_false, Option.some.injEq, Prod.mk.injEq] at hH
              obtain ⟨rfl, rfl, rfl⟩ := hH
              -- LEAF 7
              go_wp2_with (first
                | (go_at_call 25; refine (quote_Get.calls k t q1 q2 false _ HQ.out).mono ?_; rintro e w5 ⟨rfl, hb_⟩; have n1_ := Aside0.mk (HS.out.below hb_); have n2_ := Aside0.mk (HB.out.trans (hb_.mono HBS.out)); have n3_ := Aside0.mk (Nat.le_trans HBS.out hb_.size); clear HS HB HBS hb_; have HS := n1_; have HB := n2_; have HBS := n3_; clear n1_ n2_ n3_)
                | ((with_reducible refine gate_dst (N := 48) rfl ?_); (try (refine gate_guard (by rfl) ?_; dsimp only)); refine Kd.R_lit Kd.string _ 9 ?hg (N := 48) ?hd (xs := lexR1) (inner := [.string (⟨#[97, 122]⟩ : ByteArray), .string (⟨#[65, 90]⟩ : ByteArray), .string (⟨#[95]⟩ : ByteArray)]) (ok := fun _ => True) (okp := fun _ => True) ?hr ?hp (fun _ hk => hk) trivial (Below.refl _ _) (Nat.le_refl _) (by decide) ?_; (case hd => rfl); (case hg => rfl); (case hr => first | (go_simp; done) | (go_simp; rfl)); (case hp => exact (Reps.one (show Kd.M Kd.string _ _ _ (⟨#[97, 122]⟩ : ByteArray) [.string (⟨#[97, 122]⟩ : ByteArray)] from rfl) (Reps.one (show Kd.M Kd.string _ _ _ (⟨#[65, 90]⟩ : ByteArray) [.string (⟨#[65, 90]⟩ : ByteArray)] from rfl) (Reps.one (show Kd.M Kd.string _ _ _ (⟨#[95]⟩ : ByteArray) [.string (⟨#[95]⟩ : ByteArray)] from rfl) (Reps.none _ _))))); intro v_ w6 ho_ hb_ hg_ hnew_; clear hg_ hnew_; have n0_ := Aside0.mk ho_; have n1_ := Aside0.mk (HS.out.below hb_); have n2_ := Aside0.mk (HB.out.trans (hb_.mono HBS.out)); have n3_ := Aside0.mk (Nat.le_trans HBS.out hb_.size); clear HS HB HBS hb_ ho_; have HR1 := n0_; have HS := n1_; have HB := n2_; have HBS := n3_; clear n0_ n1_ n2_ n3_; obtain ⟨AHR1, cHR1, rfl⟩ := Kd.R_slice HR1.out)
                | (go_at_call 45; (with_reducible refine (lex_in.calls k (bt t 0) AHR1 cHR1 lexR1 true _ (Kd.R_reads' HR1.out).2.2 (Kd.R_reads' HR1.out).2.1 HC1.out).mono ?_); rintro e w7 ⟨rfl, hb_⟩; have n1_ := Aside0.mk (HS.out.drawn hb_); have n2_ := Aside0.mk (HB.out.trans (hb_.below.mono HBS.out)); have n3_ := Aside0.mk (Nat.le_trans HBS.out hb_.below.size); clear HS HB HBS hb_; have HS := n1_; have HB := n2_; have HBS := n3_; clear n1_ n2_ n3_)
                | ((with_reducible refine gate_dst (N := 51) rfl ?_); (try (refine gate_guard (by rfl) ?_; dsimp only)); refine Kd.R_lit Kd.string _ 9 ?hg (N := 51) ?hd (xs := lexR2) (inner := [.string (⟨#[97, 122]⟩ : ByteArray), .string (⟨#[65, 90]⟩ : ByteArray), .string (⟨#[48, 57]⟩ : ByteArray), .string (⟨#[95]⟩ : ByteArray)]) (ok := fun _ => True) (okp := fun _ => True) ?hr ?hp (fun _ hk => hk) trivial (Below.refl _ _) (Nat.le_refl _) (by decide) ?_; (case hd => rfl); (case hg => rfl); (case hr => first | (go_simp; done) | (go_simp; rfl)); (case hp => exact (Reps.one (show Kd.M Kd.string _ _ _ (⟨#[97, 122]⟩ : ByteArray) [.string (⟨#[97, 122]⟩ : ByteArray)] from rfl) (Reps.one (show Kd.M Kd.string _ _ _ (⟨#[65, 90]⟩ : ByteArray) [.string (⟨#[65, 90]⟩ : ByteArray)] from rfl) (Reps.one (show Kd.M Kd.string _ _ _ (⟨#[48, 57]⟩ : ByteArray) [.string (⟨#[48, 57]⟩ : ByteArray)] from rfl) (Reps.one (show Kd.M Kd.string _ _ _ (⟨#[95]⟩ : ByteArray) [.string (⟨#[95]⟩ : ByteArray)] from rfl) (Reps.none _ _)))))); intro v_ w6 ho_ hb_ hg_ hnew_; clear hg_ hnew_; have n0_ := Aside0.mk ho_; have n1_ := Aside0.mk (HS.out.below hb_); have n2_ := Aside0.mk (HB.out.trans (hb_.mono HBS.out)); have n3_ := Aside0.mk (Nat.le_trans HBS.out hb_.size); clear HS HB HBS hb_ ho_; have HR2 := n0_; have HS := n1_; have HB := n2_; have HBS := n3_; clear n0_ n1_ n2_ n3_; obtain ⟨AHR2, cHR2, rfl⟩ := Kd.R_slice HR2.out)
                | (go_at_call 46; (with_reducible refine (lex_while.calls k t AHR2 cHR2 lexR2 n _ (Kd.R_reads' HR2.out).2.2 (Kd.R_reads' HR2.out).2.1 HN.out).mono ?_); rintro e w8 ⟨rfl, hb_⟩; have n1_ := Aside0.mk (HS.out.drawn hb_); have n2_ := Aside0.mk (HB.out.trans (hb_.below.mono HBS.out)); have n3_ := Aside0.mk (Nat.le_trans HBS.out hb_.below.size); clear HS HB HBS hb_; have HS := n1_; have HB := n2_; have HBS := n3_; clear n1_ n2_ n3_)
                | (go_at_call 47; refine (label_Name.calls k (t.extract 0 n.toNat) false _ HNm.out).mono ?_; rintro e w5 ⟨rfl, hb_⟩; have n1_ := Aside0.mk (HS.out.below hb_); have n2_ := Aside0.mk (HB.out.trans (hb_.mono HBS.out)); have n3_ := Aside0.mk (Nat.le_trans HBS.out hb_.size); clear HS HB HBS hb_; have HS := n1_; have HB := n2_; have HBS := n3_; clear n1_ n2_ n3_))
              go_ret
              exact ⟨rfl, HS.out, HB.out⟩
          | false =>
            have hH := H.out
            simp only [Bool.false_eq_true, if_false] at hH
            rw [if_neg HM45.out] at hH
            obtain ⟨c3, hc3, hH⟩ := Option.bind_eq_some_iff.mp hH
            have HC3 := Aside0.mk hc3
            clear hc3 H
            cases c3 with
            | true =>
              simp only [if_true] at hH
              obtain ⟨m, hmm, hH⟩ := Option.bind_eq_some_iff.mp hH
              have HM := Aside0.mk hmm
              clear hmm
              split at hH
              case isFalse => simp at hH
              rename_i hc
              obtain ⟨hc1, hc2⟩ := hc
              have hnt : m ≤ (t.size : Int) := by have := HZ.out; omega
              have hn0 : 0 ≤ m := by omega
              have hn9 : m ≤ 1024 := by have := HZ.out; omega
              simp only [Option.some.injEq, Prod.mk.injEq] at hH
              obtain ⟨rfl, rfl, rfl⟩ := hH
              -- LEAF 8
              go_wp2_with (first
                | (go_at_call 25; refine (quote_Get.calls k t q1 q2 false _ HQ.out).mono ?_; rintro e w5 ⟨rfl, hb_⟩; have n1_ := Aside0.mk (HS.out.below hb_); have n2_ := Aside0.mk (HB.out.trans (hb_.mono HBS.out)); have n3_ := Aside0.mk (Nat.le_trans HBS.out hb_.size); clear HS HB HBS hb_; have HS := n1_; have HB := n2_; have HBS := n3_; clear n1_ n2_ n3_)
                | ((with_reducible refine gate_dst (N := 48) rfl ?_); (try (refine gate_guard (by rfl) ?_; dsimp only)); refine Kd.R_lit Kd.string _ 9 ?hg (N := 48) ?hd (xs := lexR1) (inner := [.string (⟨#[97, 122]⟩ : ByteArray), .string (⟨#[65, 90]⟩ : ByteArray), .string (⟨#[95]⟩ : ByteArray)]) (ok := fun _ => True) (okp := fun _ => True) ?hr ?hp (fun _ hk => hk) trivial (Below.refl _ _) (Nat.le_refl _) (by decide) ?_; (case hd => rfl); (case hg => rfl); (case hr => first | (go_simp; done) | (go_simp; rfl)); (case hp => exact (Reps.one (show Kd.M Kd.string _ _ _ (⟨#[97, 122]⟩ : ByteArray) [.string (⟨#[97, 122]⟩ : ByteArray)] from rfl) (Reps.one (show Kd.M Kd.string _ _ _ (⟨#[65, 90]⟩ : ByteArray) [.string (⟨#[65, 90]⟩ : ByteArray)] from rfl) (Reps.one (show Kd.M Kd.string _ _ _ (⟨#[95]⟩ : ByteArray) [.string (⟨#[95]⟩ : ByteArray)] from rfl) (Reps.none _ _))))); intro v_ w6 ho_ hb_ hg_ hnew_; clear hg_ hnew_; have n0_ := Aside0.mk ho_; have n1_ := Aside0.mk (HS.out.below hb_); have n2_ := Aside0.mk (HB.out.trans (hb_.mono HBS.out)); have n3_ := Aside0.mk (Nat.le_trans HBS.out hb_.size); clear HS HB HBS hb_ ho_; have HR1 := n0_; have HS := n1_; have HB := n2_; have HBS := n3_; clear n0_ n1_ n2_ n3_; obtain ⟨AHR1, cHR1, rfl⟩ := Kd.R_slice HR1.out)
                | (go_at_call 45; (with_reducible refine (lex_in.calls k (bt t 0) AHR1 cHR1 lexR1 false _ (Kd.R_reads' HR1.out).2.2 (Kd.R_reads' HR1.out).2.1 HC1.out).mono ?_); rintro e w7 ⟨rfl, hb_⟩; have n1_ := Aside0.mk (HS.out.drawn hb_); have n2_ := Aside0.mk (HB.out.trans (hb_.below.mono HBS.out)); have n3_ := Aside0.mk (Nat.le_trans HBS.out hb_.below.size); clear HS HB HBS hb_; have HS := n1_; have HB := n2_; have HBS := n3_; clear n1_ n2_ n3_)
                | ((with_reducible refine gate_dst (N := 74) rfl ?_); (try (refine gate_guard (by rfl) ?_; dsimp only)); refine Kd.R_lit Kd.string _ 9 ?hg (N := 74) ?hd (xs := lexR3) (inner := [.string (⟨#[48, 57]⟩ : ByteArray)]) (ok := fun _ => True) (okp := fun _ => True) ?hr ?hp (fun _ hk => hk) trivial (Below.refl _ _) (Nat.le_refl _) (by decide) ?_; (case hd => rfl); (case hg => rfl); (case hr => first | (go_simp; done) | (go_simp; rfl)); (case hp => exact (Reps.one (show Kd.M Kd.string _ _ _ (⟨#[48, 57]⟩ : ByteArray) [.string (⟨#[48, 57]⟩ : ByteArray)] from rfl) (Reps.none _ _))); intro v_ w6 ho_ hb_ hg_ hnew_; clear hg_ hnew_; have n0_ := Aside0.mk ho_; have n1_ := Aside0.mk (HS.out.below hb_); have n2_ := Aside0.mk (HB.out.trans (hb_.mono HBS.out)); have n3_ := Aside0.mk (Nat.le_trans HBS.out hb_.size); clear HS HB HBS hb_ ho_; have HR3 := n0_; have HS := n1_; have HB := n2_; have HBS := n3_; clear n0_ n1_ n2_ n3_; obtain ⟨AHR3, cHR3, rfl⟩ := Kd.R_slice HR3.out)
                | (go_at_call 45; (with_reducible refine (lex_in.calls k (bt t 0) AHR3 cHR3 lexR3 true _ (Kd.R_reads' HR3.out).2.2 (Kd.R_reads' HR3.out).2.1 HC3.out).mono ?_); rintro e w7 ⟨rfl, hb_⟩; have n1_ := Aside0.mk (HS.out.drawn hb_); have n2_ := Aside0.mk (HB.out.trans (hb_.below.mono HBS.out)); have n3_ := Aside0.mk (Nat.le_trans HBS.out hb_.below.size); clear HS HB HBS hb_; have HS := n1_; have HB := n2_; have HBS := n3_; clear n1_ n2_ n3_)
                | ((with_reducible refine gate_dst (N := 81) rfl ?_); (try (refine gate_guard (by rfl) ?_; dsimp only)); refine Kd.R_lit Kd.string _ 9 ?hg (N := 81) ?hd (xs := lexR4) (inner := [.string (⟨#[97, 122]⟩ : ByteArray), .string (⟨#[65, 90]⟩ : ByteArray), .string (⟨#[48, 57]⟩ : ByteArray)]) (ok := fun _ => True) (okp := fun _ => True) ?hr ?hp (fun _ hk => hk) trivial (Below.refl _ _) (Nat.le_refl _) (by decide) ?_; (case hd => rfl); (case hg => rfl); (case hr => first | (go_simp; done) | (go_simp; rfl)); (case hp => exact (Reps.one (show Kd.M Kd.string _ _ _ (⟨#[97, 122]⟩ : ByteArray) [.string (⟨#[97, 122]⟩ : ByteArray)] from rfl) (Reps.one (show Kd.M Kd.string _ _ _ (⟨#[65, 90]⟩ : ByteArray) [.string (⟨#[65, 90]⟩ : ByteArray)] from rfl) (Reps.one (show Kd.M Kd.string _ _ _ (⟨#[48, 57]⟩ : ByteArray) [.string (⟨#[48, 57]⟩ : ByteArray)] from rfl) (Reps.none _ _))))); intro v_ w6 ho_ hb_ hg_ hnew_; clear hg_ hnew_; have n0_ := Aside0.mk ho_; have n1_ := Aside0.mk (HS.out.below hb_); have n2_ := Aside0.mk (HB.out.trans (hb_.mono HBS.out)); have n3_ := Aside0.mk (Nat.le_trans HBS.out hb_.size); clear HS HB HBS hb_ ho_; have HR4 := n0_; have HS := n1_; have HB := n2_; have HBS := n3_; clear n0_ n1_ n2_ n3_; obtain ⟨AHR4, cHR4, rfl⟩ := Kd.R_slice HR4.out)
                | (go_at_call 46; (with_reducible refine (lex_while.calls k t AHR4 cHR4 lexR4 m _ (Kd.R_reads' HR4.out).2.2 (Kd.R_reads' HR4.out).2.1 HM.out).mono ?_); rintro e w8 ⟨rfl, hb_⟩; have n1_ := Aside0.mk (HS.out.drawn hb_); have n2_ := Aside0.mk (HB.out.trans (hb_.below.mono HBS.out)); have n3_ := Aside0.mk (Nat.le_trans HBS.out hb_.below.size); clear HS HB HBS hb_; have HS := n1_; have HB := n2_; have HBS := n3_; clear n1_ n2_ n3_)
                | (go_at_call 44; (with_reducible refine (lex_add_calls _ g base s a l 3 (m) (t.extract 0 (m).toNat) HS.out HBS.out h0 hn0 hc2 hm HL.out).mono ?_); rintro e w9 ⟨rfl, hS9, hB9⟩; have HS9 := Aside0.mk hS9; have HB9 := Aside0.mk (HB.out.trans hB9); clear hS9 hB9))
              go_ret
              exact ⟨rfl, HS9.out, HB9.out⟩
            | false =>
              simp only [Bool.false_eq_true, if_false, Option.some.injEq, Prod.mk.injEq] at hH
              obtain ⟨rfl, rfl, rfl⟩ := hH
              -- LEAF 9
              go_wp2_with (first
                | (go_at_call 25; refine (quote_Get.calls k t q1 q2 false _ HQ.out).mono ?_; rintro e w5 ⟨rfl, hb_⟩; have n1_ := Aside0.mk (HS.out.below hb_); have n2_ := Aside0.mk (HB.out.trans (hb_.mono HBS.out)); have n3_ := Aside0.mk (Nat.le_trans HBS.out hb_.size); clear HS HB HBS hb_; have HS := n1_; have HB := n2_; have HBS := n3_; clear n1_ n2_ n3_)
                | ((with_reducible refine gate_dst (N := 48) rfl ?_); (try (refine gate_guard (by rfl) ?_; dsimp only)); refine Kd.R_lit Kd.string _ 9 ?hg (N := 48) ?hd (xs := lexR1) (inner := [.string (⟨#[97, 122]⟩ : ByteArray), .string (⟨#[65, 90]⟩ : ByteArray), .string (⟨#[95]⟩ : ByteArray)]) (ok := fun _ => True) (okp := fun _ => True) ?hr ?hp (fun _ hk => hk) trivial (Below.refl _ _) (Nat.le_refl _) (by decide) ?_; (case hd => rfl); (case hg => rfl); (case hr => first | (go_simp; done) | (go_simp; rfl)); (case hp => exact (Reps.one (show Kd.M Kd.string _ _ _ (⟨#[97, 122]⟩ : ByteArray) [.string (⟨#[97, 122]⟩ : ByteArray)] from rfl) (Reps.one (show Kd.M Kd.string _ _ _ (⟨#[65, 90]⟩ : ByteArray) [.string (⟨#[65, 90]⟩ : ByteArray)] from rfl) (Reps.one (show Kd.M Kd.string _ _ _ (⟨#[95]⟩ : ByteArray) [.string (⟨#[95]⟩ : ByteArray)] from rfl) (Reps.none _ _))))); intro v_ w6 ho_ hb_ hg_ hnew_; clear hg_ hnew_; have n0_ := Aside0.mk ho_; have n1_ := Aside0.mk (HS.out.below hb_); have n2_ := Aside0.mk (HB.out.trans (hb_.mono HBS.out)); have n3_ := Aside0.mk (Nat.le_trans HBS.out hb_.size); clear HS HB HBS hb_ ho_; have HR1 := n0_; have HS := n1_; have HB := n2_; have HBS := n3_; clear n0_ n1_ n2_ n3_; obtain ⟨AHR1, cHR1, rfl⟩ := Kd.R_slice HR1.out)
                | (go_at_call 45; (with_reducible refine (lex_in.calls k (bt t 0) AHR1 cHR1 lexR1 false _ (Kd.R_reads' HR1.out).2.2 (Kd.R_reads' HR1.out).2.1 HC1.out).mono ?_); rintro e w7 ⟨rfl, hb_⟩; have n1_ := Aside0.mk (HS.out.drawn hb_); have n2_ := Aside0.mk (HB.out.trans (hb_.below.mono HBS.out)); have n3_ := Aside0.mk (Nat.le_trans HBS.out hb_.below.size); clear HS HB HBS hb_; have HS := n1_; have HB := n2_; have HBS := n3_; clear n1_ n2_ n3_)
                | ((with_reducible refine gate_dst (N := 74) rfl ?_); (try (refine gate_guard (by rfl) ?_; dsimp only)); refine Kd.R_lit Kd.string _ 9 ?hg (N := 74) ?hd (xs := lexR3) (inner := [.string (⟨#[48, 57]⟩ : ByteArray)]) (ok := fun _ => True) (okp := fun _ => True) ?hr ?hp (fun _ hk => hk) trivial (Below.refl _ _) (Nat.le_refl _) (by decide) ?_; (case hd => rfl); (case hg => rfl); (case hr => first | (go_simp; done) | (go_simp; rfl)); (case hp => exact (Reps.one (show Kd.M Kd.string _ _ _ (⟨#[48, 57]⟩ : ByteArray) [.string (⟨#[48, 57]⟩ : ByteArray)] from rfl) (Reps.none _ _))); intro v_ w6 ho_ hb_ hg_ hnew_; clear hg_ hnew_; have n0_ := Aside0.mk ho_; have n1_ := Aside0.mk (HS.out.below hb_); have n2_ := Aside0.mk (HB.out.trans (hb_.mono HBS.out)); have n3_ := Aside0.mk (Nat.le_trans HBS.out hb_.size); clear HS HB HBS hb_ ho_; have HR3 := n0_; have HS := n1_; have HB := n2_; have HBS := n3_; clear n0_ n1_ n2_ n3_; obtain ⟨AHR3, cHR3, rfl⟩ := Kd.R_slice HR3.out)
                | (go_at_call 45; (with_reducible refine (lex_in.calls k (bt t 0) AHR3 cHR3 lexR3 false _ (Kd.R_reads' HR3.out).2.2 (Kd.R_reads' HR3.out).2.1 HC3.out).mono ?_); rintro e w7 ⟨rfl, hb_⟩; have n1_ := Aside0.mk (HS.out.drawn hb_); have n2_ := Aside0.mk (HB.out.trans (hb_.below.mono HBS.out)); have n3_ := Aside0.mk (Nat.le_trans HBS.out hb_.below.size); clear HS HB HBS hb_; have HS := n1_; have HB := n2_; have HBS := n3_; clear n1_ n2_ n3_))
              go_ret
              exact ⟨rfl, HS.out, HB.out⟩

/-! ### lex_All: function 17 -/
def lex_All.l0 : Nat → ByteArray → Int → List S33 → Option (List S33 × Int × Int)
  | 0, _, _, _ => none
  | k + 1, s, a, l =>
    if a < (s.size : Int) then
      if 0 ≤ a then
        (strings_IndexByte.f (⟨#[32, 9, 10]⟩ : ByteArray) (bt s a)).bind fun i =>
          if i ≥ 0 then lex_All.l0 k s (a + 1) l
          else (lex_lexer_word.f k s a l).bind fun r => if r.1 = true then lex_All.l0 k s r.2.1 r.2.2 else some ([], r.2.1, 2)
      else none
    else some (l, a, 0)
def lex_All.f (k : Nat) (a0 : ByteArray) : Option (List S33 × Int × Int) := if (a0.size : Int) > 1024 then some ([], 1024, 4) else lex_All.l0 k a0 0 []
theorem lex_All.mono_l : ∀ k, ∀ s a l, LeO (lex_All.l0 k s a l) (lex_All.l0 (k + 1) s a l)
  | 0 => fun _ _ _ r h => by simp [lex_All.l0] at h
  | k + 1 => by
    have ih0 := lex_All.mono_l k
    intro s a l
    unfold lex_All.l0
    repeat' first
      | (with_reducible exact ih0 _ _ _)
      | (with_reducible exact LeO.refl _)
      | (with_reducible exact LeO.none _)
      | (with_reducible exact lex_lexer_word.mono _ _ _ _)
      | (with_reducible refine LeO.ite ?_ ?_)
      | (with_reducible refine LeO.bind ?_ (fun _ => ?_))
theorem lex_All.mono : ∀ a0 k, LeO (lex_All.f k a0) (lex_All.f (k + 1) a0) := by
  intro a0 k
  unfold lex_All.f
  exact LeO.ite (LeO.refl _) (lex_All.mono_l k _ _ _)
set_option maxHeartbeats 8000000 in
set_option maxRecDepth 100000 in
theorem lex_All.calls (k : Nat) (a0 : ByteArray) (r1 : List S33) (r2 : Int) (r3 : Int) (w : World) (h : lex_All.f k a0 = some (r1, r2, r3)) :
    Calls Try.prog 17 #[.string a0] w fun e w' => ∃ v0_ : Value, e = .returned (.tuple #[v0_, .int .i64 r2, .int .i64 r3]) ∧ Kd.R k33 33 w' w.heap.size (fun _ => True) v0_ r1 ∧ Below w.heap.size w w' := by
  have hu65 := Try.underlying65
  have hu63 := Try.underlying63
  unfold lex_All.f at h
  by_cases hz : (a0.size : Int) > 1024
  · rw [if_pos hz] at h
    simp only [Option.some.injEq, Prod.mk.injEq] at h
    obtain ⟨rfl, rfl, rfl⟩ := h
    have hz1 : decide (1024 < (a0.size : Int)) = true := decide_eq_true hz
    have hz2 : decide (1024 < a0.size) = true := decide_eq_true (by omega)
    clear hz
    go_enter Try.func17, Try.ntmps17
    go_wp2
    go_ret3
    exact ⟨_, rfl, Kd.R_nil _ _ _ _ _, Below.refl _ _⟩
  · rw [if_neg hz] at h
    have hz1 : decide (1024 < (a0.size : Int)) = false := decide_eq_false hz
    have hz2 : decide (1024 < a0.size) = false := decide_eq_false (by omega)
    have hm : a0.size ≤ 1024 := by omega
    have H' := Aside0.mk h
    have HB := Aside0.mk (Below.refl w.heap.size w)
    clear h hz
    go_enter Try.func17, Try.ntmps17
    go_wp2_with ((with_reducible refine gate_dst (N := 12) rfl ?_); refine box_event ?hg (N := 12) ?hd (cs := #[.string a0, .int .i64 0, .slice none 0 0]) (t := 65) ?hr ?_; (case hd => rfl); (case hg => rfl); (case hr => first | (go_simp; done) | (go_simp; rfl)); intro g hg w1 hbox hb; have HS := Aside0.mk (show LexS w1 g w.heap.size a0 0 [] from ⟨_, hbox, Kd.R_nil _ _ _ _ _, Nat.le_of_eq hg.symm⟩); have n1_ := Aside0.mk hb; have HBS := Aside0.mk hb.size; clear hg hbox hb HB; have HB := n1_; clear n1_)
    go_loopg [36] k (fun kq v36 w' => ∃ (a : Int) (l : List S33), Aside0 (lex_All.l0 kq a0 a l = some (r1, r2, r3)) ∧ Aside0 (kq ≤ k) ∧ Aside0 (LexS w' g w.heap.size a0 a l) ∧ Aside0 (Below w.heap.size w w') ∧ Aside0 (w.heap.size ≤ w'.heap.size))
    case atStart => exact ⟨0, [], H', ⟨Nat.le_refl _⟩, HS, HB, HBS⟩
    case round =>
      clear H' HS HB HBS
      obtain ⟨a, l, HA, HK1, HS, HB, HBS⟩ := hrel
      cases gk with
      | zero => exact absurd HA.out (by simp [lex_All.l0])
      | succ k1 =>
        have hH := HA.out
        clear HA
        simp only [lex_All.l0] at hH
        have hc1 : wr.cell? ⟨g, 1, none⟩ = some (.int .i64 a) := by obtain ⟨v, hbk, _, _⟩ := HS.out; exact (blk_cell hbk 1).trans rfl
        by_cases c4 : a < (a0.size : Int)
        · rw [if_pos c4] at hH
          by_cases c5 : 0 ≤ a
          · rw [if_pos c5] at hH
            have p5 := eq_true c5
            have q5 := eq_true c4
            have hx5 := bt_at a0 a
            have c4b0 : decide (a < (a0.size : Int)) = true := decide_eq_true c4
            have h1 : a + 1 ≤ (a0.size : Int) := by omega
            clear c4
            obtain ⟨i, hi, hH⟩ := Option.bind_eq_some_iff.mp hH
            have HI := Aside0.mk hi
            clear hi
            by_cases c6 : i ≥ 0
            · rw [if_pos c6] at hH
              have c6b : decide (0 ≤ i) = true := decide_eq_true c6
              have H' := Aside0.mk hH
              clear hH c6
              go_wp2_with (first
                | (go_at_call 33; (with_reducible refine (strings_IndexByte.calls (⟨#[32, 9, 10]⟩ : ByteArray) (bt a0 a) i _ HI.out).mono ?_); rintro e w5 ⟨rfl, hb_⟩; have n1_ := Aside0.mk (HS.out.drawn hb_); have n2_ := Aside0.mk (HB.out.trans (hb_.below.mono HBS.out)); have n3_ := Aside0.mk (Nat.le_trans HBS.out hb_.below.size); clear HS HB HBS hb_; have HS := n1_; have HB := n2_; have HBS := n3_; clear n1_ n2_ n3_)
                | (go_at_call 34; (with_reducible refine (lex_take_calls _ g w.heap.size a0 a 1 l HS.out c5 (by omega) h1 hm).mono ?_); rintro e w6 ⟨⟨x6, rfl⟩, hS6, hB6⟩; have n1_ := Aside0.mk hS6; have n2_ := Aside0.mk (HB.out.trans hB6); have n3_ := Aside0.mk (Nat.le_trans HBS.out hB6.size); clear HS HB HBS hS6 hB6; have HS := n1_; have HB := n2_; have HBS := n3_; clear n1_ n2_ n3_))
              go_roundg k1
              case measure => have := HK1.out; omega
              case rel => exact ⟨a + 1, l, H', ⟨by have := HK1.out; omega⟩, HS, HB, HBS⟩
            · rw [if_neg c6] at hH
              have c6b : decide (0 ≤ i) = false := decide_eq_false c6
              clear c6
              obtain ⟨⟨b, a2, l2⟩, hw, hH⟩ := Option.bind_eq_some_iff.mp hH
              have HW := Aside0.mk hw
              clear hw
              cases b with
              | true =>
                simp only [if_true] at hH
                have H' := Aside0.mk hH
                clear hH
                go_wp2_with (first
                  | (go_at_call 33; (with_reducible refine (strings_IndexByte.calls (⟨#[32, 9, 10]⟩ : ByteArray) (bt a0 a) i _ HI.out).mono ?_); rintro e w5 ⟨rfl, hb_⟩; have n1_ := Aside0.mk (HS.out.drawn hb_); have n2_ := Aside0.mk (HB.out.trans (hb_.below.mono HBS.out)); have n3_ := Aside0.mk (Nat.le_trans HBS.out hb_.below.size); clear HS HB HBS hb_; have HS := n1_; have HB := n2_; have HBS := n3_; clear n1_ n2_ n3_)
                  | (go_at_call 35; (with_reducible refine (lex_lexer_word.calls k1 _ g w.heap.size a0 a l true a2 l2 HS.out HBS.out HW.out).mono ?_); rintro e w6 ⟨rfl, hS6, hB6⟩; have n1_ := Aside0.mk hS6; have n2_ := Aside0.mk (HB.out.trans hB6); have n3_ := Aside0.mk (Nat.le_trans HBS.out hB6.size); clear HS HB HBS hS6 hB6; have HS := n1_; have HB := n2_; have HBS := n3_; clear n1_ n2_ n3_))
                go_roundg k1
                case measure => have := HK1.out; omega
                case rel => exact ⟨a2, l2, H', ⟨by have := HK1.out; omega⟩, HS, HB, HBS⟩
              | false =>
                simp only [Bool.false_eq_true, if_false, Option.some.injEq, Prod.mk.injEq] at hH
                obtain ⟨rfl, rfl, rfl⟩ := hH
                go_wp2_with (first
                  | (go_at_call 33; (with_reducible refine (strings_IndexByte.calls (⟨#[32, 9, 10]⟩ : ByteArray) (bt a0 a) i _ HI.out).mono ?_); rintro e w5 ⟨rfl, hb_⟩; have n1_ := Aside0.mk (HS.out.drawn hb_); have n2_ := Aside0.mk (HB.out.trans (hb_.below.mono HBS.out)); have n3_ := Aside0.mk (Nat.le_trans HBS.out hb_.below.size); clear HS HB HBS hb_; have HS := n1_; have HB := n2_; have HBS := n3_; clear n1_ n2_ n3_)
                  | (go_at_call 35; (with_reducible refine (lex_lexer_word.calls k1 _ g w.heap.size a0 a l false a2 l2 HS.out HBS.out HW.out).mono ?_); rintro e w6 ⟨rfl, hS6, hB6⟩; have n1_ := Aside0.mk hS6; have n2_ := Aside0.mk (HB.out.trans hB6); have n3_ := Aside0.mk (Nat.le_trans HBS.out hB6.size); clear HS HB HBS hS6 hB6 hc1; have HS := n1_; have HB := n2_; have HBS := n3_; clear n1_ n2_ n3_; have hc1 : w6.cell? ⟨g, 1, none⟩ = some (.int .i64 a2) := (by obtain ⟨v, hbk, _, _⟩ := HS.out; exact (blk_cell hbk 1).trans rfl)))
                repeat (go_quiet (fail); try go_wp2)
                go_ret3
                exact ⟨_, rfl, Kd.R_nil _ _ _ _ _, by repeat (first | exact HB.out | apply pw_below_drewN | apply below_drew)⟩
          · rw [if_neg c5] at hH
            exact absurd hH (by simp)
        · rw [if_neg c4] at hH
          have c4b0 : decide (a < (a0.size : Int)) = false := decide_eq_false c4
          clear c4
          simp only [Option.some.injEq, Prod.mk.injEq] at hH
          obtain ⟨rfl, rfl, rfl⟩ := hH
          obtain ⟨v, hbk, hR, hg⟩ := HS.out
          obtain ⟨A2, c2, rfl⟩ := Kd.R_slice hR
          have hc2 : wr.cell? ⟨g, 2, none⟩ = some (.slice A2 l.length c2) := (blk_cell hbk 2).trans rfl
          have HR := Aside0.mk hR
          clear hbk hR hg HS
          go_wp2
          repeat (go_quiet (fail); try go_wp2)
          go_ret3
          exact ⟨_, rfl, Kd.R_mono (Kd.R_drewN HR.out _) (fun _ _ => trivial), by repeat (first | exact HB.out | apply pw_below_drewN | apply below_drew)⟩

end Go.Proofs.Ytifcnblgpnfehaa.X
