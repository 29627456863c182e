-- Laid by xprint.py, a program of this session's, out of the translation.
import Derived.Test.YtpijoadbaocnpaaDoorX0
import Derived.Test.YtpijoadbaocnpaaDoorX1
import Derived.Test.YtpijoadbaocnpaaDoorX3
import Derived.Test.YtpijoadbaocnpaaDoorX4
namespace Go.Proofs.YtpijoadbaocnpaaDoor.X
open Go.RowKit Go.Proofs.YtpijoadbaocnpaaDoorW.PrintWords Go.Proofs.YtpijoadbaocnpaaDoorW.PrintLast Go.Proofs.YtpijoadbaocnpaaDoorW.PrintMore
attribute [local go_sem] max2_int min2_int max_two min_two max_three min_three max_four min_four x_isSome x_str_gtr x_str_leq x_str_geq   -- for this text's walks alone
set_option linter.unusedVariables false
set_option linter.unusedSimpArgs false

/-! ### archivistlaw03_examples: function 10 -/
def archivistlaw03_examples.f (k : Nat)  : Option (Bool) := (unit_Duration.f k (⟨#[49, 104, 53, 109]⟩ : ByteArray)).bind fun bt166 => ((unit_Duration.f k (⟨#[53, 109, 49, 104]⟩ : ByteArray)).bind fun bt168 => ((unit_Duration.f k (⟨#[49, 104, 49, 104]⟩ : ByteArray)).bind fun bt170 => ((unit_Duration.f k (⟨#[]⟩ : ByteArray)).bind fun bt172 => ((unit_Bytes.f (⟨#[51, 75, 66]⟩ : ByteArray)).bind fun bt174 => ((unit_Bytes.f (⟨#[49, 75, 66, 49, 66]⟩ : ByteArray)).bind fun bt176 => ((unit_Span.f k 3661000000001).bind fun bt178 => ((unit_Size.f k 1536).bind fun bt180 => ((unit_Size.f k 2048).bind fun bt182 => ((unit_Span.f k (-1)).bind fun bt184 => (if bt166.1 = 3900000000000 then (if bt166.2 = true then (if bt168.2 = true then (none) else (if bt170.2 = true then (none) else (if bt172.2 = true then (none) else (if bt174.1 = 3072 then (if bt174.2 = true then (if bt176.2 = true then (none) else (if bt178.1.toList = ([49, 104, 49, 109, 49, 115, 49, 110, 115] : List UInt8) then (if bt178.2 = true then (if bt180.1.toList = ([49, 53, 51, 54, 66] : List UInt8) then (if bt180.2 = true then (if bt182.1.toList = ([50, 75, 66] : List UInt8) then (if bt182.2 = true then (some (!bt184.2)) else (none)) else (none)) else (none)) else (none)) else (none)) else (none))) else (none)) else (none))))) else (none)) else (none)))))))))))
theorem archivistlaw03_examples.mono : ∀ k, LeO (archivistlaw03_examples.f k ) (archivistlaw03_examples.f (k + 1) ) := by
  intro  k
  unfold archivistlaw03_examples.f
  repeat' first
      | (with_reducible exact unit_Duration.mono _ _)
      | (with_reducible exact unit_Size.mono _ _)
      | (with_reducible exact unit_Span.mono _ _)
      | (with_reducible exact LeO.refl _)
      | (with_reducible exact LeO.none _)
      | (with_reducible refine LeO.ite ?_ ?_)
      | (with_reducible refine LeO.bind ?_ (fun _ => ?_))
      | exact unit_Duration.mono _ _
      | exact unit_Size.mono _ _
      | exact unit_Span.mono _ _
      | exact LeO.none _
      | refine LeO.ite ?_ ?_
      | refine LeO.bind ?_ (fun _ => ?_)
set_option maxHeartbeats 8000000 in
set_option maxRecDepth 100000 in
theorem archivistlaw03_examples.calls (k : Nat)  (r : Bool) (w : World) (h : archivistlaw03_examples.f k  = some r) (hLd : Laid w) :
    Calls Tryd.prog 10 #[] w fun e w' => e = .returned (.bool r) ∧ Below w.heap.size w w' := by
  have HLd := Aside0.mk hLd
  clear hLd
  have HB := Aside0.mk (Below.refl w.heap.size w)
  have H : ((unit_Duration.f k (⟨#[49, 104, 53, 109]⟩ : ByteArray)).bind fun bt166 => ((unit_Duration.f k (⟨#[53, 109, 49, 104]⟩ : ByteArray)).bind fun bt168 => ((unit_Duration.f k (⟨#[49, 104, 49, 104]⟩ : ByteArray)).bind fun bt170 => ((unit_Duration.f k (⟨#[]⟩ : ByteArray)).bind fun bt172 => ((unit_Bytes.f (⟨#[51, 75, 66]⟩ : ByteArray)).bind fun bt174 => ((unit_Bytes.f (⟨#[49, 75, 66, 49, 66]⟩ : ByteArray)).bind fun bt176 => ((unit_Span.f k 3661000000001).bind fun bt178 => ((unit_Size.f k 1536).bind fun bt180 => ((unit_Size.f k 2048).bind fun bt182 => ((unit_Span.f k (-1)).bind fun bt184 => (if bt166.1 = 3900000000000 then (if bt166.2 = true then (if bt168.2 = true then (none) else (if bt170.2 = true then (none) else (if bt172.2 = true then (none) else (if bt174.1 = 3072 then (if bt174.2 = true then (if bt176.2 = true then (none) else (if bt178.1.toList = ([49, 104, 49, 109, 49, 115, 49, 110, 115] : List UInt8) then (if bt178.2 = true then (if bt180.1.toList = ([49, 53, 51, 54, 66] : List UInt8) then (if bt180.2 = true then (if bt182.1.toList = ([50, 75, 66] : List UInt8) then (if bt182.2 = true then (some (!bt184.2)) else (none)) else (none)) else (none)) else (none)) else (none)) else (none))) else (none)) else (none))))) else (none)) else (none)))))))))))) = some r := h
  clear h
  replace H := Option.bind_eq_some_iff.mp H
  obtain ⟨⟨t166, t167⟩, A10, H⟩ := H
  replace H : ((unit_Duration.f k (⟨#[53, 109, 49, 104]⟩ : ByteArray)).bind fun bt168 => ((unit_Duration.f k (⟨#[49, 104, 49, 104]⟩ : ByteArray)).bind fun bt170 => ((unit_Duration.f k (⟨#[]⟩ : ByteArray)).bind fun bt172 => ((unit_Bytes.f (⟨#[51, 75, 66]⟩ : ByteArray)).bind fun bt174 => ((unit_Bytes.f (⟨#[49, 75, 66, 49, 66]⟩ : ByteArray)).bind fun bt176 => ((unit_Span.f k 3661000000001).bind fun bt178 => ((unit_Size.f k 1536).bind fun bt180 => ((unit_Size.f k 2048).bind fun bt182 => ((unit_Span.f k (-1)).bind fun bt184 => (if t166 = 3900000000000 then (if t167 = true then (if bt168.2 = true then (none) else (if bt170.2 = true then (none) else (if bt172.2 = true then (none) else (if bt174.1 = 3072 then (if bt174.2 = true then (if bt176.2 = true then (none) else (if bt178.1.toList = ([49, 104, 49, 109, 49, 115, 49, 110, 115] : List UInt8) then (if bt178.2 = true then (if bt180.1.toList = ([49, 53, 51, 54, 66] : List UInt8) then (if bt180.2 = true then (if bt182.1.toList = ([50, 75, 66] : List UInt8) then (if bt182.2 = true then (some (!bt184.2)) else (none)) else (none)) else (none)) else (none)) else (none)) else (none))) else (none)) else (none))))) else (none)) else (none))))))))))) = some r := H
  have A1 := Aside0.mk A10
  clear A10
  replace H := Option.bind_eq_some_iff.mp H
  obtain ⟨⟨t168, t169⟩, A20, H⟩ := H
  replace H : ((unit_Duration.f k (⟨#[49, 104, 49, 104]⟩ : ByteArray)).bind fun bt170 => ((unit_Duration.f k (⟨#[]⟩ : ByteArray)).bind fun bt172 => ((unit_Bytes.f (⟨#[51, 75, 66]⟩ : ByteArray)).bind fun bt174 => ((unit_Bytes.f (⟨#[49, 75, 66, 49, 66]⟩ : ByteArray)).bind fun bt176 => ((unit_Span.f k 3661000000001).bind fun bt178 => ((unit_Size.f k 1536).bind fun bt180 => ((unit_Size.f k 2048).bind fun bt182 => ((unit_Span.f k (-1)).bind fun bt184 => (if t166 = 3900000000000 then (if t167 = true then (if t169 = true then (none) else (if bt170.2 = true then (none) else (if bt172.2 = true then (none) else (if bt174.1 = 3072 then (if bt174.2 = true then (if bt176.2 = true then (none) else (if bt178.1.toList = ([49, 104, 49, 109, 49, 115, 49, 110, 115] : List UInt8) then (if bt178.2 = true then (if bt180.1.toList = ([49, 53, 51, 54, 66] : List UInt8) then (if bt180.2 = true then (if bt182.1.toList = ([50, 75, 66] : List UInt8) then (if bt182.2 = true then (some (!bt184.2)) else (none)) else (none)) else (none)) else (none)) else (none)) else (none))) else (none)) else (none))))) else (none)) else (none)))))))))) = some r := H
  have A2 := Aside0.mk A20
  clear A20
  replace H := Option.bind_eq_some_iff.mp H
  obtain ⟨⟨t170, t171⟩, A30, H⟩ := H
  replace H : ((unit_Duration.f k (⟨#[]⟩ : ByteArray)).bind fun bt172 => ((unit_Bytes.f (⟨#[51, 75, 66]⟩ : ByteArray)).bind fun bt174 => ((unit_Bytes.f (⟨#[49, 75, 66, 49, 66]⟩ : ByteArray)).bind fun bt176 => ((unit_Span.f k 3661000000001).bind fun bt178 => ((unit_Size.f k 1536).bind fun bt180 => ((unit_Size.f k 2048).bind fun bt182 => ((unit_Span.f k (-1)).bind fun bt184 => (if t166 = 3900000000000 then (if t167 = true then (if t169 = true then (none) else (if t171 = true then (none) else (if bt172.2 = true then (none) else (if bt174.1 = 3072 then (if bt174.2 = true then (if bt176.2 = true then (none) else (if bt178.1.toList = ([49, 104, 49, 109, 49, 115, 49, 110, 115] : List UInt8) then (if bt178.2 = true then (if bt180.1.toList = ([49, 53, 51, 54, 66] : List UInt8) then (if bt180.2 = true then (if bt182.1.toList = ([50, 75, 66] : List UInt8) then (if bt182.2 = true then (some (!bt184.2)) else (none)) else (none)) else (none)) else (none)) else (none)) else (none))) else (none)) else (none))))) else (none)) else (none))))))))) = some r := H
  have A3 := Aside0.mk A30
  clear A30
  replace H := Option.bind_eq_some_iff.mp H
  obtain ⟨⟨t172, t173⟩, A40, H⟩ := H
  replace H : ((unit_Bytes.f (⟨#[51, 75, 66]⟩ : ByteArray)).bind fun bt174 => ((unit_Bytes.f (⟨#[49, 75, 66, 49, 66]⟩ : ByteArray)).bind fun bt176 => ((unit_Span.f k 3661000000001).bind fun bt178 => ((unit_Size.f k 1536).bind fun bt180 => ((unit_Size.f k 2048).bind fun bt182 => ((unit_Span.f k (-1)).bind fun bt184 => (if t166 = 3900000000000 then (if t167 = true then (if t169 = true then (none) else (if t171 = true then (none) else (if t173 = true then (none) else (if bt174.1 = 3072 then (if bt174.2 = true then (if bt176.2 = true then (none) else (if bt178.1.toList = ([49, 104, 49, 109, 49, 115, 49, 110, 115] : List UInt8) then (if bt178.2 = true then (if bt180.1.toList = ([49, 53, 51, 54, 66] : List UInt8) then (if bt180.2 = true then (if bt182.1.toList = ([50, 75, 66] : List UInt8) then (if bt182.2 = true then (some (!bt184.2)) else (none)) else (none)) else (none)) else (none)) else (none)) else (none))) else (none)) else (none))))) else (none)) else (none)))))))) = some r := H
  have A4 := Aside0.mk A40
  clear A40
  replace H := Option.bind_eq_some_iff.mp H
  obtain ⟨⟨t174, t175⟩, A50, H⟩ := H
  replace H : ((unit_Bytes.f (⟨#[49, 75, 66, 49, 66]⟩ : ByteArray)).bind fun bt176 => ((unit_Span.f k 3661000000001).bind fun bt178 => ((unit_Size.f k 1536).bind fun bt180 => ((unit_Size.f k 2048).bind fun bt182 => ((unit_Span.f k (-1)).bind fun bt184 => (if t166 = 3900000000000 then (if t167 = true then (if t169 = true then (none) else (if t171 = true then (none) else (if t173 = true then (none) else (if t174 = 3072 then (if t175 = true then (if bt176.2 = true then (none) else (if bt178.1.toList = ([49, 104, 49, 109, 49, 115, 49, 110, 115] : List UInt8) then (if bt178.2 = true then (if bt180.1.toList = ([49, 53, 51, 54, 66] : List UInt8) then (if bt180.2 = true then (if bt182.1.toList = ([50, 75, 66] : List UInt8) then (if bt182.2 = true then (some (!bt184.2)) else (none)) else (none)) else (none)) else (none)) else (none)) else (none))) else (none)) else (none))))) else (none)) else (none))))))) = some r := H
  have A5 := Aside0.mk A50
  clear A50
  replace H := Option.bind_eq_some_iff.mp H
  obtain ⟨⟨t176, t177⟩, A60, H⟩ := H
  replace H : ((unit_Span.f k 3661000000001).bind fun bt178 => ((unit_Size.f k 1536).bind fun bt180 => ((unit_Size.f k 2048).bind fun bt182 => ((unit_Span.f k (-1)).bind fun bt184 => (if t166 = 3900000000000 then (if t167 = true then (if t169 = true then (none) else (if t171 = true then (none) else (if t173 = true then (none) else (if t174 = 3072 then (if t175 = true then (if t177 = true then (none) else (if bt178.1.toList = ([49, 104, 49, 109, 49, 115, 49, 110, 115] : List UInt8) then (if bt178.2 = true then (if bt180.1.toList = ([49, 53, 51, 54, 66] : List UInt8) then (if bt180.2 = true then (if bt182.1.toList = ([50, 75, 66] : List UInt8) then (if bt182.2 = true then (some (!bt184.2)) else (none)) else (none)) else (none)) else (none)) else (none)) else (none))) else (none)) else (none))))) else (none)) else (none)))))) = some r := H
  have A6 := Aside0.mk A60
  clear A60
  replace H := Option.bind_eq_some_iff.mp H
  obtain ⟨⟨t178, t179⟩, A70, H⟩ := H
  replace H : ((unit_Size.f k 1536).bind fun bt180 => ((unit_Size.f k 2048).bind fun bt182 => ((unit_Span.f k (-1)).bind fun bt184 => (if t166 = 3900000000000 then (if t167 = true then (if t169 = true then (none) else (if t171 = true then (none) else (if t173 = true then (none) else (if t174 = 3072 then (if t175 = true then (if t177 = true then (none) else (if t178.toList = ([49, 104, 49, 109, 49, 115, 49, 110, 115] : List UInt8) then (if t179 = true then (if bt180.1.toList = ([49, 53, 51, 54, 66] : List UInt8) then (if bt180.2 = true then (if bt182.1.toList = ([50, 75, 66] : List UInt8) then (if bt182.2 = true then (some (!bt184.2)) else (none)) else (none)) else (none)) else (none)) else (none)) else (none))) else (none)) else (none))))) else (none)) else (none))))) = some r := H
  have A7 := Aside0.mk A70
  clear A70
  replace H := Option.bind_eq_some_iff.mp H
  obtain ⟨⟨t180, t181⟩, A80, H⟩ := H
  replace H : ((unit_Size.f k 2048).bind fun bt182 => ((unit_Span.f k (-1)).bind fun bt184 => (if t166 = 3900000000000 then (if t167 = true then (if t169 = true then (none) else (if t171 = true then (none) else (if t173 = true then (none) else (if t174 = 3072 then (if t175 = true then (if t177 = true then (none) else (if t178.toList = ([49, 104, 49, 109, 49, 115, 49, 110, 115] : List UInt8) then (if t179 = true then (if t180.toList = ([49, 53, 51, 54, 66] : List UInt8) then (if t181 = true then (if bt182.1.toList = ([50, 75, 66] : List UInt8) then (if bt182.2 = true then (some (!bt184.2)) else (none)) else (none)) else (none)) else (none)) else (none)) else (none))) else (none)) else (none))))) else (none)) else (none)))) = some r := H
  have A8 := Aside0.mk A80
  clear A80
  replace H := Option.bind_eq_some_iff.mp H
  obtain ⟨⟨t182, t183⟩, A90, H⟩ := H
  replace H : ((unit_Span.f k (-1)).bind fun bt184 => (if t166 = 3900000000000 then (if t167 = true then (if t169 = true then (none) else (if t171 = true then (none) else (if t173 = true then (none) else (if t174 = 3072 then (if t175 = true then (if t177 = true then (none) else (if t178.toList = ([49, 104, 49, 109, 49, 115, 49, 110, 115] : List UInt8) then (if t179 = true then (if t180.toList = ([49, 53, 51, 54, 66] : List UInt8) then (if t181 = true then (if t182.toList = ([50, 75, 66] : List UInt8) then (if t183 = true then (some (!bt184.2)) else (none)) else (none)) else (none)) else (none)) else (none)) else (none))) else (none)) else (none))))) else (none)) else (none))) = some r := H
  have A9 := Aside0.mk A90
  clear A90
  replace H := Option.bind_eq_some_iff.mp H
  obtain ⟨⟨t184, t185⟩, A100, H⟩ := H
  replace H : (if t166 = 3900000000000 then (if t167 = true then (if t169 = true then (none) else (if t171 = true then (none) else (if t173 = true then (none) else (if t174 = 3072 then (if t175 = true then (if t177 = true then (none) else (if t178.toList = ([49, 104, 49, 109, 49, 115, 49, 110, 115] : List UInt8) then (if t179 = true then (if t180.toList = ([49, 53, 51, 54, 66] : List UInt8) then (if t181 = true then (if t182.toList = ([50, 75, 66] : List UInt8) then (if t183 = true then (some (!t185)) else (none)) else (none)) else (none)) else (none)) else (none)) else (none))) else (none)) else (none))))) else (none)) else (none)) = some r := H
  have A10 := Aside0.mk A100
  clear A100
  by_cases c11 : t166 = 3900000000000
  · rw [if_pos c11] at H
    have c11b0 : (t166 == 3900000000000) = true := beq_iff_eq.mpr c11
    have c11b1 : (t166 != 3900000000000) = false := bne_eq_false_iff_eq.mpr c11
    clear c11
    by_cases c12 : t167 = true
    · subst c12
      have H1 : (if t169 = true then (none) else (if t171 = true then (none) else (if t173 = true then (none) else (if t174 = 3072 then (if t175 = true then (if t177 = true then (none) else (if t178.toList = ([49, 104, 49, 109, 49, 115, 49, 110, 115] : List UInt8) then (if t179 = true then (if t180.toList = ([49, 53, 51, 54, 66] : List UInt8) then (if t181 = true then (if t182.toList = ([50, 75, 66] : List UInt8) then (if t183 = true then (some (!t185)) else (none)) else (none)) else (none)) else (none)) else (none)) else (none))) else (none)) else (none))))) = some r := by rw [if_pos rfl] at H; exact H
      clear H
      have H := H1
      clear H1
      by_cases c13 : t169 = true
      · subst c13
        have H1 : (none) = some r := by rw [if_pos rfl] at H; exact H
        clear H
        have H := H1
        clear H1
        exact absurd H (by simp)
      · replace c13 := Bool.eq_false_iff.mpr c13
        subst c13
        have H1 : (if t171 = true then (none) else (if t173 = true then (none) else (if t174 = 3072 then (if t175 = true then (if t177 = true then (none) else (if t178.toList = ([49, 104, 49, 109, 49, 115, 49, 110, 115] : List UInt8) then (if t179 = true then (if t180.toList = ([49, 53, 51, 54, 66] : List UInt8) then (if t181 = true then (if t182.toList = ([50, 75, 66] : List UInt8) then (if t183 = true then (some (!t185)) else (none)) else (none)) else (none)) else (none)) else (none)) else (none))) else (none)) else (none)))) = some r := by rw [if_neg (show ¬ (false = true) by decide)] at H; exact H
        clear H
        have H := H1
        clear H1
        by_cases c14 : t171 = true
        · subst c14
          have H1 : (none) = some r := by rw [if_pos rfl] at H; exact H
          clear H
          have H := H1
          clear H1
          exact absurd H (by simp)
        · replace c14 := Bool.eq_false_iff.mpr c14
          subst c14
          have H1 : (if t173 = true then (none) else (if t174 = 3072 then (if t175 = true then (if t177 = true then (none) else (if t178.toList = ([49, 104, 49, 109, 49, 115, 49, 110, 115] : List UInt8) then (if t179 = true then (if t180.toList = ([49, 53, 51, 54, 66] : List UInt8) then (if t181 = true then (if t182.toList = ([50, 75, 66] : List UInt8) then (if t183 = true then (some (!t185)) else (none)) else (none)) else (none)) else (none)) else (none)) else (none))) else (none)) else (none))) = some r := by rw [if_neg (show ¬ (false = true) by decide)] at H; exact H
          clear H
          have H := H1
          clear H1
          by_cases c15 : t173 = true
          · subst c15
            have H1 : (none) = some r := by rw [if_pos rfl] at H; exact H
            clear H
            have H := H1
            clear H1
            exact absurd H (by simp)
          · replace c15 := Bool.eq_false_iff.mpr c15
            subst c15
            have H1 : (if t174 = 3072 then (if t175 = true then (if t177 = true then (none) else (if t178.toList = ([49, 104, 49, 109, 49, 115, 49, 110, 115] : List UInt8) then (if t179 = true then (if t180.toList = ([49, 53, 51, 54, 66] : List UInt8) then (if t181 = true then (if t182.toList = ([50, 75, 66] : List UInt8) then (if t183 = true then (some (!t185)) else (none)) else (none)) else (none)) else (none)) else (none)) else (none))) else (none)) else (none)) = some r := by rw [if_neg (show ¬ (false = true) by decide)] at H; exact H
            clear H
            have H := H1
            clear H1
            by_cases c16 : t174 = 3072
            · rw [if_pos c16] at H
              have c16b0 : (t174 == 3072) = true := beq_iff_eq.mpr c16
              have c16b1 : (t174 != 3072) = false := bne_eq_false_iff_eq.mpr c16
              clear c16
              by_cases c17 : t175 = true
              · subst c17
                have H1 : (if t177 = true then (none) else (if t178.toList = ([49, 104, 49, 109, 49, 115, 49, 110, 115] : List UInt8) then (if t179 = true then (if t180.toList = ([49, 53, 51, 54, 66] : List UInt8) then (if t181 = true then (if t182.toList = ([50, 75, 66] : List UInt8) then (if t183 = true then (some (!t185)) else (none)) else (none)) else (none)) else (none)) else (none)) else (none))) = some r := by rw [if_pos rfl] at H; exact H
                clear H
                have H := H1
                clear H1
                by_cases c18 : t177 = true
                · subst c18
                  have H1 : (none) = some r := by rw [if_pos rfl] at H; exact H
                  clear H
                  have H := H1
                  clear H1
                  exact absurd H (by simp)
                · replace c18 := Bool.eq_false_iff.mpr c18
                  subst c18
                  have H1 : (if t178.toList = ([49, 104, 49, 109, 49, 115, 49, 110, 115] : List UInt8) then (if t179 = true then (if t180.toList = ([49, 53, 51, 54, 66] : List UInt8) then (if t181 = true then (if t182.toList = ([50, 75, 66] : List UInt8) then (if t183 = true then (some (!t185)) else (none)) else (none)) else (none)) else (none)) else (none)) else (none)) = some r := by rw [if_neg (show ¬ (false = true) by decide)] at H; exact H
                  clear H
                  have H := H1
                  clear H1
                  by_cases c19 : t178.toList = ([49, 104, 49, 109, 49, 115, 49, 110, 115] : List UInt8)
                  · rw [if_pos c19] at H
                    have c19b0 : (t178.toList == ([49, 104, 49, 109, 49, 115, 49, 110, 115] : List UInt8)) = true := beq_iff_eq.mpr c19
                    have c19b1 : (t178.toList != ([49, 104, 49, 109, 49, 115, 49, 110, 115] : List UInt8)) = false := bne_eq_false_iff_eq.mpr c19
                    clear c19
                    by_cases c20 : t179 = true
                    · subst c20
                      have H1 : (if t180.toList = ([49, 53, 51, 54, 66] : List UInt8) then (if t181 = true then (if t182.toList = ([50, 75, 66] : List UInt8) then (if t183 = true then (some (!t185)) else (none)) else (none)) else (none)) else (none)) = some r := by rw [if_pos rfl] at H; exact H
                      clear H
                      have H := H1
                      clear H1
                      by_cases c21 : t180.toList = ([49, 53, 51, 54, 66] : List UInt8)
                      · rw [if_pos c21] at H
                        have c21b0 : (t180.toList == ([49, 53, 51, 54, 66] : List UInt8)) = true := beq_iff_eq.mpr c21
                        have c21b1 : (t180.toList != ([49, 53, 51, 54, 66] : List UInt8)) = false := bne_eq_false_iff_eq.mpr c21
                        clear c21
                        by_cases c22 : t181 = true
                        · subst c22
                          have H1 : (if t182.toList = ([50, 75, 66] : List UInt8) then (if t183 = true then (some (!t185)) else (none)) else (none)) = some r := by rw [if_pos rfl] at H; exact H
                          clear H
                          have H := H1
                          clear H1
                          by_cases c23 : t182.toList = ([50, 75, 66] : List UInt8)
                          · rw [if_pos c23] at H
                            have c23b0 : (t182.toList == ([50, 75, 66] : List UInt8)) = true := beq_iff_eq.mpr c23
                            have c23b1 : (t182.toList != ([50, 75, 66] : List UInt8)) = false := bne_eq_false_iff_eq.mpr c23
                            clear c23
                            by_cases c24 : t183 = true
                            · subst c24
                              have H1 : (some (!t185)) = some r := by rw [if_pos rfl] at H; exact H
                              clear H
                              have H := H1
                              clear H1
                              obtain rfl := Option.some.inj H
                              go_enter Tryd.func10, Tryd.ntmps10
                              go_wp2_with (first | ((with_reducible refine gate_callee (f := 12) rfl ?_); refine goesL_ (some 22) rfl rfl Tryd.func12 (by kernel_rfl) rfl #[.string (⟨#[49, 104, 53, 109]⟩ : ByteArray)] rfl (by (try simp only [List.map_toArray, List.map_cons, List.map_nil]); first | done | rfl | (simp only [List.length_drop, List.length_take]; rfl)) ?_; (with_reducible refine (unit_Duration.calls k (⟨#[49, 104, 53, 109]⟩ : ByteArray) t166 true _ A1.out ?sideLd).mono ?_); (case sideLd => exact laid_below HLd.out (by repeat (first | (with_reducible first | exact HB.out | apply below_alloc | apply pw_below_drewN | apply below_drew1) | exact HB.out))); rintro e w25 ⟨rfl, hb⟩; refine ⟨_, rfl, ?_⟩; have n0_ := Aside0.mk (below_step (by repeat (first | (with_reducible first | exact HB.out | apply below_alloc | apply pw_below_drewN | apply below_drew1) | exact HB.out)) hb); clear HB; have HB := n0_; clear n0_; (try clear hb); (try clear hb2); (try clear hk); (try clear hi)) | ((with_reducible refine gate_callee (f := 12) rfl ?_); refine goesL_ (some 26) rfl rfl Tryd.func12 (by kernel_rfl) rfl #[.string (⟨#[53, 109, 49, 104]⟩ : ByteArray)] rfl (by (try simp only [List.map_toArray, List.map_cons, List.map_nil]); first | done | rfl | (simp only [List.length_drop, List.length_take]; rfl)) ?_; (with_reducible refine (unit_Duration.calls k (⟨#[53, 109, 49, 104]⟩ : ByteArray) t168 false _ A2.out ?sideLd).mono ?_); (case sideLd => exact laid_below HLd.out (by repeat (first | (with_reducible first | exact HB.out | apply below_alloc | apply pw_below_drewN | apply below_drew1) | exact HB.out))); rintro e w26 ⟨rfl, hb⟩; refine ⟨_, rfl, ?_⟩; have n0_ := Aside0.mk (below_step (by repeat (first | (with_reducible first | exact HB.out | apply below_alloc | apply pw_below_drewN | apply below_drew1) | exact HB.out)) hb); clear HB; have HB := n0_; clear n0_; (try clear hb); (try clear hb2); (try clear hk); (try clear hi)) | ((with_reducible refine gate_callee (f := 12) rfl ?_); refine goesL_ (some 30) rfl rfl Tryd.func12 (by kernel_rfl) rfl #[.string (⟨#[49, 104, 49, 104]⟩ : ByteArray)] rfl (by (try simp only [List.map_toArray, List.map_cons, List.map_nil]); first | done | rfl | (simp only [List.length_drop, List.length_take]; rfl)) ?_; (with_reducible refine (unit_Duration.calls k (⟨#[49, 104, 49, 104]⟩ : ByteArray) t170 false _ A3.out ?sideLd).mono ?_); (case sideLd => exact laid_below HLd.out (by repeat (first | (with_reducible first | exact HB.out | apply below_alloc | apply pw_below_drewN | apply below_drew1) | exact HB.out))); rintro e w27 ⟨rfl, hb⟩; refine ⟨_, rfl, ?_⟩; have n0_ := Aside0.mk (below_step (by repeat (first | (with_reducible first | exact HB.out | apply below_alloc | apply pw_below_drewN | apply below_drew1) | exact HB.out)) hb); clear HB; have HB := n0_; clear n0_; (try clear hb); (try clear hb2); (try clear hk); (try clear hi)) | ((with_reducible refine gate_callee (f := 12) rfl ?_); refine goesL_ (some 34) rfl rfl Tryd.func12 (by kernel_rfl) rfl #[.string (⟨#[]⟩ : ByteArray)] rfl (by (try simp only [List.map_toArray, List.map_cons, List.map_nil]); first | done | rfl | (simp only [List.length_drop, List.length_take]; rfl)) ?_; (with_reducible refine (unit_Duration.calls k (⟨#[]⟩ : ByteArray) t172 false _ A4.out ?sideLd).mono ?_); (case sideLd => exact laid_below HLd.out (by repeat (first | (with_reducible first | exact HB.out | apply below_alloc | apply pw_below_drewN | apply below_drew1) | exact HB.out))); rintro e w28 ⟨rfl, hb⟩; refine ⟨_, rfl, ?_⟩; have n0_ := Aside0.mk (below_step (by repeat (first | (with_reducible first | exact HB.out | apply below_alloc | apply pw_below_drewN | apply below_drew1) | exact HB.out)) hb); clear HB; have HB := n0_; clear n0_; (try clear hb); (try clear hb2); (try clear hk); (try clear hi)) | ((with_reducible refine gate_callee (f := 14) rfl ?_); refine goesL_ (some 38) rfl rfl Tryd.func14 (by kernel_rfl) rfl #[.string (⟨#[51, 75, 66]⟩ : ByteArray)] rfl (by (try simp only [List.map_toArray, List.map_cons, List.map_nil]); first | done | rfl | (simp only [List.length_drop, List.length_take]; rfl)) ?_; (with_reducible refine (unit_Bytes.calls (⟨#[51, 75, 66]⟩ : ByteArray) t174 true _ A5.out ?sideLd).mono ?_); (case sideLd => exact laid_below HLd.out (by repeat (first | (with_reducible first | exact HB.out | apply below_alloc | apply pw_below_drewN | apply below_drew1) | exact HB.out))); rintro e w29 ⟨rfl, hb⟩; refine ⟨_, rfl, ?_⟩; have n0_ := Aside0.mk (below_step (by repeat (first | (with_reducible first | exact HB.out | apply below_alloc | apply pw_below_drewN | apply below_drew1) | exact HB.out)) hb); clear HB; have HB := n0_; clear n0_; (try clear hb); (try clear hb2); (try clear hk); (try clear hi)) | ((with_reducible refine gate_callee (f := 14) rfl ?_); refine goesL_ (some 42) rfl rfl Tryd.func14 (by kernel_rfl) rfl #[.string (⟨#[49, 75, 66, 49, 66]⟩ : ByteArray)] rfl (by (try simp only [List.map_toArray, List.map_cons, List.map_nil]); first | done | rfl | (simp only [List.length_drop, List.length_take]; rfl)) ?_; (with_reducible refine (unit_Bytes.calls (⟨#[49, 75, 66, 49, 66]⟩ : ByteArray) t176 false _ A6.out ?sideLd).mono ?_); (case sideLd => exact laid_below HLd.out (by repeat (first | (with_reducible first | exact HB.out | apply below_alloc | apply pw_below_drewN | apply below_drew1) | exact HB.out))); rintro e w30 ⟨rfl, hb⟩; refine ⟨_, rfl, ?_⟩; have n0_ := Aside0.mk (below_step (by repeat (first | (with_reducible first | exact HB.out | apply below_alloc | apply pw_below_drewN | apply below_drew1) | exact HB.out)) hb); clear HB; have HB := n0_; clear n0_; (try clear hb); (try clear hb2); (try clear hk); (try clear hi)) | ((with_reducible refine gate_callee (f := 16) rfl ?_); refine goesL_ (some 46) rfl rfl Tryd.func16 (by kernel_rfl) rfl #[.int .i64 3661000000001] rfl (by (try simp only [List.map_toArray, List.map_cons, List.map_nil]); first | done | rfl | (simp only [List.length_drop, List.length_take]; rfl)) ?_; (with_reducible refine (unit_Span.calls k 3661000000001 t178 true _ A7.out ?sideLd).mono ?_); (case sideLd => exact laid_below HLd.out (by repeat (first | (with_reducible first | exact HB.out | apply below_alloc | apply pw_below_drewN | apply below_drew1) | exact HB.out))); rintro e w31 ⟨rfl, hb⟩; refine ⟨_, rfl, ?_⟩; have n0_ := Aside0.mk (below_step (by repeat (first | (with_reducible first | exact HB.out | apply below_alloc | apply pw_below_drewN | apply below_drew1) | exact HB.out)) hb); clear HB; have HB := n0_; clear n0_; (try clear hb); (try clear hb2); (try clear hk); (try clear hi)) | ((with_reducible refine gate_callee (f := 18) rfl ?_); refine goesL_ (some 50) rfl rfl Tryd.func18 (by kernel_rfl) rfl #[.int .i64 1536] rfl (by (try simp only [List.map_toArray, List.map_cons, List.map_nil]); first | done | rfl | (simp only [List.length_drop, List.length_take]; rfl)) ?_; (with_reducible refine (unit_Size.calls k 1536 t180 true _ A8.out ?sideLd).mono ?_); (case sideLd => exact laid_below HLd.out (by repeat (first | (with_reducible first | exact HB.out | apply below_alloc | apply pw_below_drewN | apply below_drew1) | exact HB.out))); rintro e w32 ⟨rfl, hb⟩; refine ⟨_, rfl, ?_⟩; have n0_ := Aside0.mk (below_step (by repeat (first | (with_reducible first | exact HB.out | apply below_alloc | apply pw_below_drewN | apply below_drew1) | exact HB.out)) hb); clear HB; have HB := n0_; clear n0_; (try clear hb); (try clear hb2); (try clear hk); (try clear hi)) | ((with_reducible refine gate_callee (f := 18) rfl ?_); refine goesL_ (some 54) rfl rfl Tryd.func18 (by kernel_rfl) rfl #[.int .i64 2048] rfl (by (try simp only [List.map_toArray, List.map_cons, List.map_nil]); first | done | rfl | (simp only [List.length_drop, List.length_take]; rfl)) ?_; (with_reducible refine (unit_Size.calls k 2048 t182 true _ A9.out ?sideLd).mono ?_); (case sideLd => exact laid_below HLd.out (by repeat (first | (with_reducible first | exact HB.out | apply below_alloc | apply pw_below_drewN | apply below_drew1) | exact HB.out))); rintro e w33 ⟨rfl, hb⟩; refine ⟨_, rfl, ?_⟩; have n0_ := Aside0.mk (below_step (by repeat (first | (with_reducible first | exact HB.out | apply below_alloc | apply pw_below_drewN | apply below_drew1) | exact HB.out)) hb); clear HB; have HB := n0_; clear n0_; (try clear hb); (try clear hb2); (try clear hk); (try clear hi)) | ((with_reducible refine gate_callee (f := 16) rfl ?_); refine goesL_ (some 58) rfl rfl Tryd.func16 (by kernel_rfl) rfl #[.int .i64 (-1)] rfl (by (try simp only [List.map_toArray, List.map_cons, List.map_nil]); first | done | rfl | (simp only [List.length_drop, List.length_take]; rfl)) ?_; (with_reducible refine (unit_Span.calls k (-1) t184 t185 _ A10.out ?sideLd).mono ?_); (case sideLd => exact laid_below HLd.out (by repeat (first | (with_reducible first | exact HB.out | apply below_alloc | apply pw_below_drewN | apply below_drew1) | exact HB.out))); rintro e w34 ⟨rfl, hb⟩; refine ⟨_, rfl, ?_⟩; have n0_ := Aside0.mk (below_step (by repeat (first | (with_reducible first | exact HB.out | apply below_alloc | apply pw_below_drewN | apply below_drew1) | exact HB.out)) hb); clear HB; have HB := n0_; clear n0_; (try clear hb); (try clear hb2); (try clear hk); (try clear hi)))
                              go_ret
                              exact ⟨by first | rfl | (simp [errW_none, errW_some] <;> rfl) | (simp [*, errW_none, errW_some] <;> rfl), by repeat (first | (with_reducible first | exact HB.out | apply below_alloc | apply pw_below_drewN | apply below_drew1) | exact HB.out)⟩
                            · replace c24 := Bool.eq_false_iff.mpr c24
                              subst c24
                              have H1 : (none) = some r := by rw [if_neg (show ¬ (false = true) by decide)] at H; exact H
                              clear H
                              have H := H1
                              clear H1
                              exact absurd H (by simp)
                          · rw [if_neg c23] at H
                            exact absurd H (by simp)
                        · replace c22 := Bool.eq_false_iff.mpr c22
                          subst c22
                          have H1 : (none) = some r := by rw [if_neg (show ¬ (false = true) by decide)] at H; exact H
                          clear H
                          have H := H1
                          clear H1
                          exact absurd H (by simp)
                      · rw [if_neg c21] at H
                        exact absurd H (by simp)
                    · replace c20 := Bool.eq_false_iff.mpr c20
                      subst c20
                      have H1 : (none) = some r := by rw [if_neg (show ¬ (false = true) by decide)] at H; exact H
                      clear H
                      have H := H1
                      clear H1
                      exact absurd H (by simp)
                  · rw [if_neg c19] at H
                    exact absurd H (by simp)
              · replace c17 := Bool.eq_false_iff.mpr c17
                subst c17
                have H1 : (none) = some r := by rw [if_neg (show ¬ (false = true) by decide)] at H; exact H
                clear H
                have H := H1
                clear H1
                exact absurd H (by simp)
            · rw [if_neg c16] at H
              exact absurd H (by simp)
    · replace c12 := Bool.eq_false_iff.mpr c12
      subst c12
      have H1 : (none) = some r := by rw [if_neg (show ¬ (false = true) by decide)] at H; exact H
      clear H
      have H := H1
      clear H1
      exact absurd H (by simp)
  · rw [if_neg c11] at H
    exact absurd H (by simp)

/-! ### archivistref02_size: function 33 -/
def archivistref02_size.f (a0 : Int) : Option (Int) := if a0 < 0 then (some (IntKind.u64.wrap (-(IntKind.u64.wrap (a0))))) else (some (IntKind.u64.wrap (a0)))
set_option maxHeartbeats 8000000 in
set_option maxRecDepth 100000 in
theorem archivistref02_size.calls (a0 : Int) (r : Int) (w : World) (h : archivistref02_size.f a0 = some r) :
    Calls Tryd.prog 33 #[.int .i64 a0] w fun e w' => e = .returned (.int .u64 r) ∧ Drawn0 w w' := by
  have H : (if a0 < 0 then (some (IntKind.u64.wrap (-(IntKind.u64.wrap (a0))))) else (some (IntKind.u64.wrap (a0)))) = some r := h
  clear h
  by_cases c2 : a0 < 0
  · rw [if_pos c2] at H
    have c2b0 : decide (a0 < 0) = true := decide_eq_true c2
    clear c2
    obtain rfl := Option.some.inj H
    go_enter Tryd.func33, Tryd.ntmps33
    go_wp2
    go_ret
    exact ⟨by first | rfl | (simp; done) | (simp [*]; done), by repeat (first | exact Drawn0.refl _ | apply Drawn0.step)⟩
  · rw [if_neg c2] at H
    have c2b0 : decide (a0 < 0) = false := decide_eq_false c2
    clear c2
    obtain rfl := Option.some.inj H
    go_enter Tryd.func33, Tryd.ntmps33
    go_wp2
    go_ret
    exact ⟨by first | rfl | (simp; done) | (simp [*]; done), by repeat (first | exact Drawn0.refl _ | apply Drawn0.step)⟩

/-! ### archivistref02_Text: function 22 -/
def archivistref02_Text.l0 : Nat → Int → Int → ByteArray → Option (ByteArray)
  | 0, _, _, _ => none
  | k + 1, x0, x3, x4 => if x3 > 9 then ((some (([(IntKind.u64.wrap (48 + (Int.tmod (IntKind.u64.wrap (Int.tdiv x3 10)) 10))) % 256] : List Int) : List Int)).bind fun y190 => (if (strOfNums y190).size + x4.size ≤ 9223372036854775807 then (archivistref02_Text.l0 k x0 (IntKind.u64.wrap (Int.tdiv x3 10)) ((strOfNums y190) ++ x4)) else (none))) else (if x0 < 0 then (if 1 + x4.size ≤ 9223372036854775807 then (some ((⟨#[45]⟩ : ByteArray) ++ x4)) else (none)) else (some x4))
def archivistref02_Text.f (k : Nat) (a0 : Int) : Option (ByteArray) := (archivistref02_size.f a0).bind fun t186 => (archivistref02_Text.l0 k a0 t186 (strOfNums (([(IntKind.u64.wrap (48 + (Int.tmod t186 10))) % 256] : List Int))))
theorem archivistref02_Text.mono_l : ∀ k, (∀ y0 y1 y2, LeO (archivistref02_Text.l0 k y0 y1 y2) (archivistref02_Text.l0 (k + 1) y0 y1 y2))
  | 0 => fun _ _ _ r h => by simp [archivistref02_Text.l0] at h
  | k + 1 => by
    have ih0 := archivistref02_Text.mono_l k
    · intro y0 y1 y2
      unfold archivistref02_Text.l0
      repeat' first
      | (with_reducible exact ih0 _ _ _)
      | (with_reducible exact LeO.refl _)
      | (with_reducible exact LeO.none _)
      | (with_reducible refine LeO.ite ?_ ?_)
      | (with_reducible refine LeO.bind ?_ (fun _ => ?_))
      | exact ih0 _ _ _
      | exact LeO.none _
      | refine LeO.ite ?_ ?_
      | refine LeO.bind ?_ (fun _ => ?_)
theorem archivistref02_Text.mono : ∀ a0 k, LeO (archivistref02_Text.f k a0) (archivistref02_Text.f (k + 1) a0) := by
  intro a0 k
  have ih0 := archivistref02_Text.mono_l k
  unfold archivistref02_Text.f
  repeat' first
      | (with_reducible exact ih0 _ _ _)
      | (with_reducible exact LeO.refl _)
      | (with_reducible exact LeO.none _)
      | (with_reducible refine LeO.ite ?_ ?_)
      | (with_reducible refine LeO.bind ?_ (fun _ => ?_))
      | exact ih0 _ _ _
      | exact LeO.none _
      | refine LeO.ite ?_ ?_
      | refine LeO.bind ?_ (fun _ => ?_)
set_option maxHeartbeats 8000000 in
set_option maxRecDepth 100000 in
theorem archivistref02_Text.calls (k : Nat) (a0 : Int) (r : ByteArray) (w : World) (h : archivistref02_Text.f k a0 = some r) :
    Calls Tryd.prog 22 #[.int .i64 a0] w fun e w' => e = .returned (.string r) ∧ Below w.heap.size w w' := by
  have HB := Aside0.mk (Below.refl w.heap.size w)
  have H : ((archivistref02_size.f a0).bind fun t186 => (archivistref02_Text.l0 k a0 t186 (strOfNums (([(IntKind.u64.wrap (48 + (Int.tmod t186 10))) % 256] : List Int))))) = some r := h
  clear h
  replace H := Option.bind_eq_some_iff.mp H
  obtain ⟨t186, A20, H⟩ := H
  replace H : (archivistref02_Text.l0 k a0 t186 (strOfNums (([(IntKind.u64.wrap (48 + (Int.tmod t186 10))) % 256] : List Int)))) = some r := H
  have A2 := Aside0.mk A20
  clear A20
  obtain ⟨y187, hy187⟩ : ∃ y_ : List Int, y_ = (([(IntKind.u64.wrap (48 + (Int.tmod t186 10))) % 256] : List Int)) := ⟨_, rfl⟩
  replace H : (archivistref02_Text.l0 k a0 t186 (strOfNums y187)) = some r := by first | (rw [hy187]; with_reducible exact H) | (have H2_ := (Option.bind_some _ _).symm.trans H; rw [hy187]; with_reducible exact H2_) | (have H2_ := (Option.bind_some _ _).symm.trans H; with_reducible exact H2_) | with_reducible exact H | (rw [hy187]; exact H) | exact H
  have Ny187 := Aside0.mk hy187
  clear hy187
  have H' := Aside0.mk H
  clear H
  go_enter Tryd.func22, Tryd.ntmps22
  go_wp2_with (first | ((with_reducible refine gate_callee (f := 33) rfl ?_); refine goesL_ (some 6) rfl rfl Tryd.func33 (by kernel_rfl) rfl #[.int .i64 a0] rfl (by (try simp only [List.map_toArray, List.map_cons, List.map_nil]); first | done | rfl | (simp only [List.length_drop, List.length_take]; rfl)) ?_; (with_reducible refine (archivistref02_size.calls a0 t186 _ A2.out).mono ?_); rintro e w' ⟨rfl, ⟨nd, rfl⟩⟩; refine ⟨_, rfl, ?_⟩) | ((with_reducible refine gate_dst (N := 11) rfl ?_); refine Kd.R_lit (Kd.int .u8) _ 5 ?hg (N := 11) ?hd (xs := ([(IntKind.u64.wrap (48 + (Int.tmod t186 10))) % 256] : List Int)) (inner := [.int .u8 ((IntKind.u64.wrap (48 + (Int.tmod t186 10))) % 256)]) (ok := fun _ => True) (okp := fun _ => True) ?hr ?hp (fun _ hk => hk) trivial (Below.refl _ _) (Nat.le_refl _) (by simp) ?_; (case hd => rfl); (case hg => rfl); (case hr => first | (go_simp; done) | (go_simp; rfl)); (case hp => exact (Reps.one (show Kd.M (Kd.int .u8) _ _ _ ((IntKind.u64.wrap (48 + (Int.tmod t186 10))) % 256) [.int .u8 ((IntKind.u64.wrap (48 + (Int.tmod t186 10))) % 256)] from rfl) (Reps.none _ _))); intro v188 w3 ho4 hb hg_ hnew_; clear hg_ hnew_; (first | rw [← Ny187.out] at ho4 | (simp only [Int.reduceToNat] at ho4; rw [← Ny187.out] at ho4)); have n0_ := Aside0.mk (Kd.R_lower ho4 (below_size (by repeat (first | (with_reducible first | exact HB.out | apply below_alloc | apply pw_below_drewN | apply below_drew1) | exact HB.out)))); have n1_ := Aside0.mk (below_step (by repeat (first | (with_reducible first | exact HB.out | apply below_alloc | apply pw_below_drewN | apply below_drew1) | exact HB.out)) hb); clear HB; have HO189 := n0_; have HB := n1_; clear n0_ n1_; clear hb ho4; have hcv5 := own_string (P := Tryd.prog) Tryd.underlying22 Tryd.underlying5 Tryd.underlying9 (Kd.own_of_R HO189.out)))
  go_loopg [3, 4] k (fun kq v3 v4 w' => ∃ (x3_1 : Int) (x4_1 : ByteArray), v3 = .int .u64 x3_1 ∧ v4 = .string x4_1 ∧ Aside0 (archivistref02_Text.l0 kq a0 x3_1 x4_1 = some r) ∧ Aside0 (kq ≤ k) ∧ Aside0 (Below w.heap.size w w'))
  case atStart => exact ⟨(t186), (strOfNums y187), (by first | rfl | (simp; done) | (simp [*]; done)), (by first | rfl | (simp; done) | (simp [*]; done)), H', ⟨Nat.le_refl _⟩, ⟨by repeat (first | (with_reducible first | exact HB.out | apply below_alloc | apply pw_below_drewN | apply below_drew1) | exact HB.out)⟩⟩
  case round =>
    clear H'
    try clear c2
    try clear p2
    try clear c3
    try clear hcv5
    obtain ⟨x3_1, x4_1, rfl, rfl, HA, HK1, HB⟩ := hrel
    cases gk with
    | zero => exact absurd HA.out (by simp [archivistref02_Text.l0])
    | succ k1 =>
      have H := HA.out
      clear HA
      simp only [archivistref02_Text.l0] at H
      by_cases c6 : x3_1 > 9
      · rw [if_pos c6] at H
        have c6b0 : decide (9 < x3_1) = true := decide_eq_true c6
        clear c6
        obtain ⟨y190, hy190⟩ : ∃ y_ : List Int, y_ = (([(IntKind.u64.wrap (48 + (Int.tmod (IntKind.u64.wrap (Int.tdiv x3_1 10)) 10))) % 256] : List Int)) := ⟨_, rfl⟩
        replace H : (if (strOfNums y190).size + x4_1.size ≤ 9223372036854775807 then (archivistref02_Text.l0 k1 a0 (IntKind.u64.wrap (Int.tdiv x3_1 10)) ((strOfNums y190) ++ x4_1)) else (none)) = some r := by first | (rw [hy190]; with_reducible exact H) | (have H2_ := (Option.bind_some _ _).symm.trans H; rw [hy190]; with_reducible exact H2_) | (have H2_ := (Option.bind_some _ _).symm.trans H; with_reducible exact H2_) | with_reducible exact H | (rw [hy190]; exact H) | exact H
        have Ny190 := Aside0.mk hy190
        clear hy190
        by_cases c7 : (strOfNums y190).size + x4_1.size ≤ 9223372036854775807
        · rw [if_pos c7] at H
          have c7b0 := eq_true c7
          have c7b1 : decide ((strOfNums y190).size + x4_1.size ≤ 9223372036854775807) = true := decide_eq_true c7
          try have c7b2 : (9223372036854775807 < (strOfNums y190).size + x4_1.size) = False := eq_false (Nat.not_lt.2 c7)
          have H' := Aside0.mk H
          clear H
          go_wp2_with (first | ((with_reducible refine gate_dst (N := 21) rfl ?_); refine Kd.R_lit (Kd.int .u8) _ 5 ?hg (N := 21) ?hd (xs := ([(IntKind.u64.wrap (48 + (Int.tmod (IntKind.u64.wrap (Int.tdiv x3_1 10)) 10))) % 256] : List Int)) (inner := [.int .u8 ((IntKind.u64.wrap (48 + (Int.tmod (IntKind.u64.wrap (Int.tdiv x3_1 10)) 10))) % 256)]) (ok := fun _ => True) (okp := fun _ => True) ?hr ?hp (fun _ hk => hk) trivial (Below.refl _ _) (Nat.le_refl _) (by simp) ?_; (case hd => rfl); (case hg => rfl); (case hr => first | (go_simp; done) | (go_simp; rfl)); (case hp => exact (Reps.one (show Kd.M (Kd.int .u8) _ _ _ ((IntKind.u64.wrap (48 + (Int.tmod (IntKind.u64.wrap (Int.tdiv x3_1 10)) 10))) % 256) [.int .u8 ((IntKind.u64.wrap (48 + (Int.tmod (IntKind.u64.wrap (Int.tdiv x3_1 10)) 10))) % 256)] from rfl) (Reps.none _ _))); intro v191 w8 ho9 hb hg_ hnew_; clear hg_ hnew_; (first | rw [← Ny190.out] at ho9 | (simp only [Int.reduceToNat] at ho9; rw [← Ny190.out] at ho9)); have n0_ := Aside0.mk (Kd.R_lower ho9 (below_size (by repeat (first | (with_reducible first | exact HB.out | apply below_alloc | apply pw_below_drewN | apply below_drew1) | exact HB.out)))); have n1_ := Aside0.mk (below_step (by repeat (first | (with_reducible first | exact HB.out | apply below_alloc | apply pw_below_drewN | apply below_drew1) | exact HB.out)) hb); clear HB; have HO192 := n0_; have HB := n1_; clear n0_ n1_; clear hb ho9; have hcv10 := own_string (P := Tryd.prog) Tryd.underlying22 Tryd.underlying5 Tryd.underlying9 (Kd.own_of_R HO192.out)))
          go_roundg k1
          case measure => have := HK1.out; omega
          case rel => exact ⟨(IntKind.u64.wrap (Int.tdiv x3_1 10)), ((strOfNums y190) ++ x4_1), (by first | rfl | (simp; done) | (simp [*]; done)), (by first | rfl | (simp; done) | (simp [*]; done)), H', ⟨by have := HK1.out; omega⟩, ⟨by repeat (first | (with_reducible first | exact HB.out | apply below_alloc | apply pw_below_drewN | apply below_drew1) | exact HB.out)⟩⟩
        · rw [if_neg c7] at H
          exact absurd H (by simp)
      · rw [if_neg c6] at H
        have c6b0 : decide (9 < x3_1) = false := decide_eq_false c6
        clear c6
        by_cases c11 : a0 < 0
        · rw [if_pos c11] at H
          have c11b0 : decide (a0 < 0) = true := decide_eq_true c11
          clear c11
          by_cases c12 : 1 + x4_1.size ≤ 9223372036854775807
          · rw [if_pos c12] at H
            have c12b0 := eq_true c12
            have c12b1 : decide (1 + x4_1.size ≤ 9223372036854775807) = true := decide_eq_true c12
            try have c12b2 : (9223372036854775807 < 1 + x4_1.size) = False := eq_false (Nat.not_lt.2 c12)
            obtain rfl := Option.some.inj H
            go_wp2
            go_ret
            exact ⟨by first | rfl | (simp [errW_none, errW_some] <;> rfl) | (simp [*, errW_none, errW_some] <;> rfl), by repeat (first | (with_reducible first | exact HB.out | apply below_alloc | apply pw_below_drewN | apply below_drew1) | exact HB.out)⟩
          · rw [if_neg c12] at H
            exact absurd H (by simp)
        · rw [if_neg c11] at H
          have c11b0 : decide (a0 < 0) = false := decide_eq_false c11
          clear c11
          obtain rfl := Option.some.inj H
          go_wp2
          go_ret
          exact ⟨by first | rfl | (simp [errW_none, errW_some] <;> rfl) | (simp [*, errW_none, errW_some] <;> rfl), by repeat (first | (with_reducible first | exact HB.out | apply below_alloc | apply pw_below_drewN | apply below_drew1) | exact HB.out)⟩

/-! ### archivistlaw03_part: function 11 -/
def archivistlaw03_part.f (k : Nat) (a0 : Int) (a1 : Int) : Option (ByteArray) := (some (([(⟨#[104]⟩ : ByteArray), (⟨#[109]⟩ : ByteArray), (⟨#[115]⟩ : ByteArray), (⟨#[109, 115]⟩ : ByteArray), (⟨#[117, 115]⟩ : ByteArray), (⟨#[110, 115]⟩ : ByteArray), (⟨#[71, 66]⟩ : ByteArray), (⟨#[77, 66]⟩ : ByteArray), (⟨#[75, 66]⟩ : ByteArray), (⟨#[66]⟩ : ByteArray), (⟨#[]⟩ : ByteArray), (⟨#[120]⟩ : ByteArray)] : List ByteArray) : List ByteArray)).bind fun y193 => ((archivistref02_Text.f k a0).bind fun t196 => (if 0 ≤ (Int.tmod a1 12) then (if (Int.tmod a1 12) < (y193.length : Int) then (if t196.size + (rdOf ByteArray.empty y193 (Int.tmod a1 12)).size ≤ 9223372036854775807 then (some (t196 ++ (rdOf ByteArray.empty y193 (Int.tmod a1 12)))) else (none)) else (none)) else (none)))
theorem archivistlaw03_part.mono : ∀ a0 a1 k, LeO (archivistlaw03_part.f k a0 a1) (archivistlaw03_part.f (k + 1) a0 a1) := by
  intro a0 a1 k
  unfold archivistlaw03_part.f
  repeat' first
      | (with_reducible exact archivistref02_Text.mono _ _)
      | (with_reducible exact LeO.refl _)
      | (with_reducible exact LeO.none _)
      | (with_reducible refine LeO.ite ?_ ?_)
      | (with_reducible refine LeO.bind ?_ (fun _ => ?_))
      | exact archivistref02_Text.mono _ _
      | exact LeO.none _
      | refine LeO.ite ?_ ?_
      | refine LeO.bind ?_ (fun _ => ?_)
def archivistlaw03_part.T2 : Bool × List (List Nat × List Nat) := (true, [([], []), ([0], [0]), ([], []), ([], []), ([3], [3]), ([2, 4], [2, 4]), ([5], [5]), ([1, 6], [1, 6]), ([7, 1, 0, 1, 2, 3, 4, 5, 6, 7], [7])])
def archivistlaw03_part.B2 : List Nat := [0, 1, 0, 0, 8, 28, 60, 127, 255]
theorem archivistlaw03_part.tab2 : rtab .any (opsOf Tryd.f11 2) = archivistlaw03_part.T2 := by kernel_rfl
theorem archivistlaw03_part.bits2 : waitsOk archivistlaw03_part.T2.2 archivistlaw03_part.B2 = true := by kernel_rfl
set_option maxHeartbeats 8000000 in
set_option maxRecDepth 100000 in
theorem archivistlaw03_part.calls (k : Nat) (a0 : Int) (a1 : Int) (r : ByteArray) (w : World) (h : archivistlaw03_part.f k a0 a1 = some r) :
    Calls Tryd.prog 11 #[.int .i64 a0, .int .u8 a1] w fun e w' => e = .returned (.string r) ∧ Below w.heap.size w w' := by
  have HB := Aside0.mk (Below.refl w.heap.size w)
  have H : ((some (([(⟨#[104]⟩ : ByteArray), (⟨#[109]⟩ : ByteArray), (⟨#[115]⟩ : ByteArray), (⟨#[109, 115]⟩ : ByteArray), (⟨#[117, 115]⟩ : ByteArray), (⟨#[110, 115]⟩ : ByteArray), (⟨#[71, 66]⟩ : ByteArray), (⟨#[77, 66]⟩ : ByteArray), (⟨#[75, 66]⟩ : ByteArray), (⟨#[66]⟩ : ByteArray), (⟨#[]⟩ : ByteArray), (⟨#[120]⟩ : ByteArray)] : List ByteArray) : List ByteArray)).bind fun y193 => ((archivistref02_Text.f k a0).bind fun t196 => (if 0 ≤ (Int.tmod a1 12) then (if (Int.tmod a1 12) < (y193.length : Int) then (if t196.size + (rdOf ByteArray.empty y193 (Int.tmod a1 12)).size ≤ 9223372036854775807 then (some (t196 ++ (rdOf ByteArray.empty y193 (Int.tmod a1 12)))) else (none)) else (none)) else (none)))) = some r := h
  clear h
  obtain ⟨y193, hy193⟩ : ∃ y_ : List ByteArray, y_ = (([(⟨#[104]⟩ : ByteArray), (⟨#[109]⟩ : ByteArray), (⟨#[115]⟩ : ByteArray), (⟨#[109, 115]⟩ : ByteArray), (⟨#[117, 115]⟩ : ByteArray), (⟨#[110, 115]⟩ : ByteArray), (⟨#[71, 66]⟩ : ByteArray), (⟨#[77, 66]⟩ : ByteArray), (⟨#[75, 66]⟩ : ByteArray), (⟨#[66]⟩ : ByteArray), (⟨#[]⟩ : ByteArray), (⟨#[120]⟩ : ByteArray)] : List ByteArray)) := ⟨_, rfl⟩
  replace H : ((archivistref02_Text.f k a0).bind fun t196 => (if 0 ≤ (Int.tmod a1 12) then (if (Int.tmod a1 12) < (y193.length : Int) then (if t196.size + (rdOf ByteArray.empty y193 (Int.tmod a1 12)).size ≤ 9223372036854775807 then (some (t196 ++ (rdOf ByteArray.empty y193 (Int.tmod a1 12)))) else (none)) else (none)) else (none))) = some r := by first | (rw [hy193]; with_reducible exact H) | (have H2_ := (Option.bind_some _ _).symm.trans H; rw [hy193]; with_reducible exact H2_) | (have H2_ := (Option.bind_some _ _).symm.trans H; with_reducible exact H2_) | with_reducible exact H | (rw [hy193]; exact H) | exact H
  have Ny193 := Aside0.mk hy193
  clear hy193
  replace H := Option.bind_eq_some_iff.mp H
  obtain ⟨t196, A30, H⟩ := H
  replace H : (if 0 ≤ (Int.tmod a1 12) then (if (Int.tmod a1 12) < (y193.length : Int) then (if t196.size + (rdOf ByteArray.empty y193 (Int.tmod a1 12)).size ≤ 9223372036854775807 then (some (t196 ++ (rdOf ByteArray.empty y193 (Int.tmod a1 12)))) else (none)) else (none)) else (none)) = some r := H
  have A3 := Aside0.mk A30
  clear A30
  obtain ⟨ji4, hji4⟩ : ∃ j_ : Int, (Int.tmod a1 12) = j_ := ⟨_, rfl⟩
  replace H : (if 0 ≤ (ji4) then (if (ji4) < (y193.length : Int) then (if t196.size + (rdOf ByteArray.empty y193 (ji4)).size ≤ 9223372036854775807 then (some (t196 ++ (rdOf ByteArray.empty y193 (ji4)))) else (none)) else (none)) else (none)) = some r := by first | (rw [hji4] at H; exact H) | (simp only [hji4] at H ⊢; exact H)
  (try rw [hji4] at A3)
  by_cases c5 : 0 ≤ (ji4)
  · rw [if_pos c5] at H
    have c5b0 : decide (0 ≤ (ji4)) = true := decide_eq_true c5
    clear c5
    by_cases c6 : (ji4) < (y193.length : Int)
    · rw [if_pos c6] at H
      have c6b0 : decide ((ji4) < (y193.length : Int)) = true := decide_eq_true c6
      clear c6
      by_cases c7 : t196.size + (rdOf ByteArray.empty y193 (ji4)).size ≤ 9223372036854775807
      · rw [if_pos c7] at H
        have c7b0 := eq_true c7
        have c7b1 : decide (t196.size + (rdOf ByteArray.empty y193 (ji4)).size ≤ 9223372036854775807) = true := decide_eq_true c7
        try have c7b2 : (9223372036854775807 < t196.size + (rdOf ByteArray.empty y193 (ji4)).size) = False := eq_false (Nat.not_lt.2 c7)
        obtain rfl := Option.some.inj H
        go_enter Tryd.func11, Tryd.ntmps11
        try go_wp2_with (first | ((with_reducible refine gate_dst (N := 6) rfl ?_); refine Kd.R_lit Kd.string _ 9 ?hg (N := 6) ?hd (xs := ([(⟨#[104]⟩ : ByteArray), (⟨#[109]⟩ : ByteArray), (⟨#[115]⟩ : ByteArray), (⟨#[109, 115]⟩ : ByteArray), (⟨#[117, 115]⟩ : ByteArray), (⟨#[110, 115]⟩ : ByteArray), (⟨#[71, 66]⟩ : ByteArray), (⟨#[77, 66]⟩ : ByteArray), (⟨#[75, 66]⟩ : ByteArray), (⟨#[66]⟩ : ByteArray), (⟨#[]⟩ : ByteArray), (⟨#[120]⟩ : ByteArray)] : List ByteArray)) (inner := [.string (⟨#[104]⟩ : ByteArray), .string (⟨#[109]⟩ : ByteArray), .string (⟨#[115]⟩ : ByteArray), .string (⟨#[109, 115]⟩ : ByteArray), .string (⟨#[117, 115]⟩ : ByteArray), .string (⟨#[110, 115]⟩ : ByteArray), .string (⟨#[71, 66]⟩ : ByteArray), .string (⟨#[77, 66]⟩ : ByteArray), .string (⟨#[75, 66]⟩ : ByteArray), .string (⟨#[66]⟩ : ByteArray), .string (⟨#[]⟩ : ByteArray), .string (⟨#[120]⟩ : ByteArray)]) (ok := fun _ => True) (okp := fun _ => True) ?hr ?hp (fun _ hk => hk) trivial (Below.refl _ _) (Nat.le_refl _) (by simp) ?_; (case hd => rfl); (case hg => rfl); (case hr => first | (go_simp; done) | (go_simp; rfl)); (case hp => exact (Reps.one (show Kd.M Kd.string _ _ _ (⟨#[104]⟩ : ByteArray) [.string (⟨#[104]⟩ : ByteArray)] from rfl) (Reps.one (show Kd.M Kd.string _ _ _ (⟨#[109]⟩ : ByteArray) [.string (⟨#[109]⟩ : ByteArray)] from rfl) (Reps.one (show Kd.M Kd.string _ _ _ (⟨#[115]⟩ : ByteArray) [.string (⟨#[115]⟩ : ByteArray)] from rfl) (Reps.one (show Kd.M Kd.string _ _ _ (⟨#[109, 115]⟩ : ByteArray) [.string (⟨#[109, 115]⟩ : ByteArray)] from rfl) (Reps.one (show Kd.M Kd.string _ _ _ (⟨#[117, 115]⟩ : ByteArray) [.string (⟨#[117, 115]⟩ : ByteArray)] from rfl) (Reps.one (show Kd.M Kd.string _ _ _ (⟨#[110, 115]⟩ : ByteArray) [.string (⟨#[110, 115]⟩ : ByteArray)] from rfl) (Reps.one (show Kd.M Kd.string _ _ _ (⟨#[71, 66]⟩ : ByteArray) [.string (⟨#[71, 66]⟩ : ByteArray)] from rfl) (Reps.one (show Kd.M Kd.string _ _ _ (⟨#[77, 66]⟩ : ByteArray) [.string (⟨#[77, 66]⟩ : ByteArray)] from rfl) (Reps.one (show Kd.M Kd.string _ _ _ (⟨#[75, 66]⟩ : ByteArray) [.string (⟨#[75, 66]⟩ : ByteArray)] from rfl) (Reps.one (show Kd.M Kd.string _ _ _ (⟨#[66]⟩ : ByteArray) [.string (⟨#[66]⟩ : ByteArray)] from rfl) (Reps.one (show Kd.M Kd.string _ _ _ (⟨#[]⟩ : ByteArray) [.string (⟨#[]⟩ : ByteArray)] from rfl) (Reps.one (show Kd.M Kd.string _ _ _ (⟨#[120]⟩ : ByteArray) [.string (⟨#[120]⟩ : ByteArray)] from rfl) (Reps.none _ _)))))))))))))); intro v194 w8 ho9 hb hg_ hnew_; clear hg_ hnew_; (first | rw [← Ny193.out] at ho9 | (simp only [Int.reduceToNat] at ho9; rw [← Ny193.out] at ho9)); have n0_ := Aside0.mk (Kd.R_lower ho9 (below_size (by repeat (first | (with_reducible first | exact HB.out | apply below_alloc | apply pw_below_drewN | apply below_drew1) | exact HB.out)))); have n1_ := Aside0.mk (below_step (by repeat (first | (with_reducible first | exact HB.out | apply below_alloc | apply pw_below_drewN | apply below_drew1) | exact HB.out)) hb); clear HB; have HO195 := n0_; have HB := n1_; clear n0_ n1_; clear hb ho9))
        have n0_ := Aside0.mk (Kd.R_drew HO195.out)
        have n1_ := Aside0.mk (below_drew1 HB.out)
        clear HO195
        clear HB
        have HO195 := n0_
        have HB := n1_
        clear n0_ n1_
        obtain ⟨Ao11, co11, eo11⟩ := Kd.R_slice HO195.out
        (first | subst eo11 | (injection eo11 with f1_ f2_ f3_; have f4_ := f1_.symm; have f5_ := f3_.symm; clear f1_ f2_ f3_; subst f4_; subst f5_))
        have p197 : 0 ≤ ((ji4) : Int) := of_decide_eq_true (by first | (with_reducible assumption) | assumption)
        have q197 : (ji4) < (y193.length : Int) := of_decide_eq_true (by first | (with_reducible assumption) | assumption)
        obtain ⟨ad197, e197, hx197_0⟩ := Kd.at_string (Kd.R_reads' HO195.out).2.2 (ji4) p197 q197
        cases e197
        replace p197 := eq_true p197
        replace q197 := eq_true q197
        refine start_ (n := 9) (S := fun w' => w'.cell? (ad197.add ((ji4)).toNat) = some (.string (rdOf ByteArray.empty y193 (ji4)))) (ds := []) #[false, false, false, false, false, false, false, false, false] (by kernel_rfl) rfl rfl (hx197_0) (fun hHeld => ?_); refine with_tabW archivistlaw03_part.tab2 archivistlaw03_part.bits2 (fun HT_ HW_ => ?_)
        generalize w8.drew = w10 at HO195 HB hx197_0 hHeld ⊢
        refine pure_ (i := 0) (N := some 7) (v := ?_) (a' := ?_) #[true, false, false, false, false, false, false, false, false] rfl rfl (any_of HT_.out (by kernel_rfl)) (fun _ _ _ h => h) (Or.inl ⟨by rfl, ?_⟩) ?_ ?_
        rotate_left
        · intro w'
          go_simp
          with_reducible rfl
        rotate_left
        · simp only [Act.put, List.setIfInBounds_toArray, List.set_cons_zero, List.set_cons_succ, i64_w, i32_w]
          rfl
        refine pure_ (i := 2) (N := some 9) (v := ?_) (a' := ?_) #[true, false, true, false, false, false, false, false, false] rfl rfl (any_of HT_.out (by kernel_rfl)) (fun _ _ _ h => h) (Or.inl ⟨by rfl, ?_⟩) ?_ ?_
        rotate_left
        · intro w'
          go_simp
          with_reducible rfl
        rotate_left
        · simp only [Act.put, List.setIfInBounds_toArray, List.set_cons_zero, List.set_cons_succ, i64_w, i32_w]
          rfl
        refine pure_ (i := 3) (N := some 10) (v := ?_) (a' := ?_) #[true, false, true, true, false, false, false, false, false] rfl rfl (any_of HT_.out (by kernel_rfl)) (fun _ _ _ h => h) (Or.inl ⟨by rfl, ?_⟩) ?_ ?_
        rotate_left
        · intro w'
          go_simp
          with_reducible rfl
        rotate_left
        · simp only [Act.put, List.setIfInBounds_toArray, List.set_cons_zero, List.set_cons_succ, i64_w, i32_w]
          rfl
        refine pure_ (i := 4) (N := some 11) (v := ?_) (a' := ?_) #[true, false, true, true, true, false, false, false, false] rfl rfl (any_of HT_.out (by kernel_rfl)) (fun _ _ _ h => h) (Or.inl ⟨by rfl, ?_⟩) ?_ ?_
        rotate_left
        · intro w'
          go_simp
          with_reducible rfl
        rotate_left
        · simp only [Act.put, List.setIfInBounds_toArray, List.set_cons_zero, List.set_cons_succ, i64_w, i32_w]
          rfl
        refine pure_ (i := 5) (N := some 12) (v := ?_) (a' := ?_) #[true, false, true, true, true, true, false, false, false] rfl rfl (any_of HT_.out (by kernel_rfl)) (fun _ _ _ h => h) (Or.inl ⟨by rfl, ?_⟩) ?_ ?_
        rotate_left
        · intro w'
          go_simp
          with_reducible rfl
        rotate_left
        · simp only [Act.put, List.setIfInBounds_toArray, List.set_cons_zero, List.set_cons_succ, i64_w, i32_w]
          rfl
        refine take_ (i := 6) (N := some 13) (v := ?_) (a' := ?_) #[true, false, true, true, true, true, true, false, false] rfl rfl (take_ofW HT_.out HW_.out (by kernel_rfl)) (fun _ _ _ h => h) (Or.inl ⟨by rfl, ?_⟩) hHeld ?_ ?_
        rotate_left
        · intro w' s0
          go_simp
          with_reducible rfl
        rotate_left
        · simp only [Act.put, List.setIfInBounds_toArray, List.set_cons_zero, List.set_cons_succ, i64_w, i32_w]
          rfl
        refine one_ (i := 1) (N := some 8) #[true, true, true, true, true, true, true, false, false] rfl rfl (one_of HT_.out (by kernel_rfl)) (by decide) (fun K hK => ?_)
        refine goes_ Tryd.func22 (by kernel_rfl) rfl #[.int .i64 a0] (by rfl) rfl rfl (by (try simp only [List.map_toArray, List.map_cons, List.map_nil]); first | done | rfl | (simp only [List.length_drop, List.length_take]; rfl)) ?_
        with_reducible refine (archivistref02_Text.calls k a0 t196 _ A3.out).mono ?_
        rintro e w12 ⟨rfl, hb⟩
        have HS0_ := (hb.cell (World.block_lt_of_cell? _ _ (hHeld))).trans (hHeld)
        refine ⟨_, rfl, ?_⟩
        have n0_ := Aside0.mk (Kd.R_below (by (with_reducible repeat (first | apply Kd.R_alloc | apply Kd.R_drewN | apply Kd.R_drew)); exact HO195.out) hb)
        have n1_ := Aside0.mk (below_step (by repeat (first | (with_reducible first | exact HB.out | apply below_alloc | apply pw_below_drewN | apply below_drew1) | exact HB.out)) hb)
        clear HO195
        clear HB
        have HO195 := n0_
        have HB := n1_
        clear n0_ n1_
        (try clear hb)
        (try clear hb2)
        (try clear hk)
        (try clear hi)
        refine hK.out _ _ (HS0_) (fun hHeld => ?_)
        clear hK K
        refine norm_ (a' := ?_) ?_ ?_
        rotate_left
        · show Act.put _ (some 8) _ = _
          simp only [Act.put, List.setIfInBounds_toArray, List.set_cons_zero, List.set_cons_succ, i64_w, i32_w]
          rfl
        refine pure_ (i := 7) (N := some 14) (v := ?_) (a' := ?_) #[true, true, true, true, true, true, true, true, false] rfl rfl (any_of HT_.out (by kernel_rfl)) (fun _ _ _ h => h) (Or.inl ⟨by rfl, ?_⟩) ?_ ?_
        rotate_left
        · intro w'
          go_simp
          with_reducible rfl
        rotate_left
        · simp only [Act.put, List.setIfInBounds_toArray, List.set_cons_zero, List.set_cons_succ, i64_w, i32_w]
          rfl
        refine pure_ (i := 8) (N := some 4) (v := ?_) (a' := ?_) #[true, true, true, true, true, true, true, true, true] rfl rfl (any_of HT_.out (by kernel_rfl)) (fun _ _ _ h => h) (Or.inl ⟨by rfl, ?_⟩) ?_ ?_
        rotate_left
        · intro w'
          go_simp
          with_reducible rfl
        rotate_left
        · simp only [Act.put, List.setIfInBounds_toArray, List.set_cons_zero, List.set_cons_succ, i64_w, i32_w]
          rfl
        refine done_ (done_of HT_.out (by kernel_rfl)) ?_
        try go_wp2
        go_ret
        exact ⟨by first | rfl | (simp [errW_none, errW_some] <;> rfl) | (simp only [← hji4]; first | rfl | (simp [errW_none, errW_some] <;> rfl)) | (simp [*, errW_none, errW_some] <;> rfl), by repeat (first | (with_reducible first | exact HB.out | apply below_alloc | apply pw_below_drewN | apply below_drew1) | exact HB.out)⟩
      · rw [if_neg c7] at H
        exact absurd H (by simp)
    · rw [if_neg c6] at H
      exact absurd H (by simp)
  · rw [if_neg c5] at H
    exact absurd H (by simp)

/-! ### archivistref03_names: function 32 -/
def archivistref03_names.f (a0 : Bool) : Option (List ByteArray) := if a0 = true then (some (([(⟨#[71, 66]⟩ : ByteArray), (⟨#[77, 66]⟩ : ByteArray), (⟨#[75, 66]⟩ : ByteArray), (⟨#[66]⟩ : ByteArray)] : List ByteArray))) else (some (([(⟨#[104]⟩ : ByteArray), (⟨#[109]⟩ : ByteArray), (⟨#[115]⟩ : ByteArray), (⟨#[109, 115]⟩ : ByteArray), (⟨#[117, 115]⟩ : ByteArray), (⟨#[110, 115]⟩ : ByteArray)] : List ByteArray)))
set_option maxHeartbeats 8000000 in
set_option maxRecDepth 100000 in
theorem archivistref03_names.calls (a0 : Bool) (r : List ByteArray) (w : World) (h : archivistref03_names.f a0 = some r) :
    Calls Tryd.prog 32 #[.bool a0] w fun e w' => ∃ v0_ : Value, e = .returned (v0_) ∧ Kd.R Kd.string 9 w' w.heap.size (fun _ => True) v0_ r ∧ Below w.heap.size w w' := by
  have HB := Aside0.mk (Below.refl w.heap.size w)
  have H : (if a0 = true then (some (([(⟨#[71, 66]⟩ : ByteArray), (⟨#[77, 66]⟩ : ByteArray), (⟨#[75, 66]⟩ : ByteArray), (⟨#[66]⟩ : ByteArray)] : List ByteArray))) else (some (([(⟨#[104]⟩ : ByteArray), (⟨#[109]⟩ : ByteArray), (⟨#[115]⟩ : ByteArray), (⟨#[109, 115]⟩ : ByteArray), (⟨#[117, 115]⟩ : ByteArray), (⟨#[110, 115]⟩ : ByteArray)] : List ByteArray)))) = some r := h
  clear h
  by_cases c2 : a0 = true
  · subst c2
    have H1 : (some (([(⟨#[71, 66]⟩ : ByteArray), (⟨#[77, 66]⟩ : ByteArray), (⟨#[75, 66]⟩ : ByteArray), (⟨#[66]⟩ : ByteArray)] : List ByteArray))) = some r := by rw [if_pos rfl] at H; exact H
    clear H
    have H := H1
    clear H1
    obtain ⟨y198, hy198⟩ : ∃ y_ : List ByteArray, y_ = (([(⟨#[71, 66]⟩ : ByteArray), (⟨#[77, 66]⟩ : ByteArray), (⟨#[75, 66]⟩ : ByteArray), (⟨#[66]⟩ : ByteArray)] : List ByteArray)) := ⟨_, rfl⟩
    replace H : (some y198) = some r := by first | (rw [hy198]; with_reducible exact H) | (have H2_ := (Option.bind_some _ _).symm.trans H; rw [hy198]; with_reducible exact H2_) | (have H2_ := (Option.bind_some _ _).symm.trans H; with_reducible exact H2_) | with_reducible exact H | (rw [hy198]; exact H) | exact H
    have Ny198 := Aside0.mk hy198
    clear hy198
    obtain rfl := Option.some.inj H
    go_enter Tryd.func32, Tryd.ntmps32
    go_wp2_with (first | ((with_reducible refine gate_dst (N := 4) rfl ?_); refine Kd.R_lit Kd.string _ 9 ?hg (N := 4) ?hd (xs := ([(⟨#[71, 66]⟩ : ByteArray), (⟨#[77, 66]⟩ : ByteArray), (⟨#[75, 66]⟩ : ByteArray), (⟨#[66]⟩ : ByteArray)] : List ByteArray)) (inner := [.string (⟨#[71, 66]⟩ : ByteArray), .string (⟨#[77, 66]⟩ : ByteArray), .string (⟨#[75, 66]⟩ : ByteArray), .string (⟨#[66]⟩ : ByteArray)]) (ok := fun _ => True) (okp := fun _ => True) ?hr ?hp (fun _ hk => hk) trivial (Below.refl _ _) (Nat.le_refl _) (by simp) ?_; (case hd => rfl); (case hg => rfl); (case hr => first | (go_simp; done) | (go_simp; rfl)); (case hp => exact (Reps.one (show Kd.M Kd.string _ _ _ (⟨#[71, 66]⟩ : ByteArray) [.string (⟨#[71, 66]⟩ : ByteArray)] from rfl) (Reps.one (show Kd.M Kd.string _ _ _ (⟨#[77, 66]⟩ : ByteArray) [.string (⟨#[77, 66]⟩ : ByteArray)] from rfl) (Reps.one (show Kd.M Kd.string _ _ _ (⟨#[75, 66]⟩ : ByteArray) [.string (⟨#[75, 66]⟩ : ByteArray)] from rfl) (Reps.one (show Kd.M Kd.string _ _ _ (⟨#[66]⟩ : ByteArray) [.string (⟨#[66]⟩ : ByteArray)] from rfl) (Reps.none _ _)))))); intro v199 w3 ho4 hb hg_ hnew_; clear hg_ hnew_; (first | rw [← Ny198.out] at ho4 | (simp only [Int.reduceToNat] at ho4; rw [← Ny198.out] at ho4)); have n0_ := Aside0.mk (Kd.R_lower ho4 (below_size (by repeat (first | (with_reducible first | exact HB.out | apply below_alloc | apply pw_below_drewN | apply below_drew1) | exact HB.out)))); have n1_ := Aside0.mk (below_step (by repeat (first | (with_reducible first | exact HB.out | apply below_alloc | apply pw_below_drewN | apply below_drew1) | exact HB.out)) hb); clear HB; have HO200 := n0_; have HB := n1_; clear n0_ n1_; clear hb ho4))
    go_ret
    exact ⟨_, by first | rfl | (simp [errW_none, errW_some] <;> rfl) | (simp [*, errW_none, errW_some] <;> rfl), by (with_reducible repeat (first | apply Kd.R_alloc | apply Kd.R_drewN | apply Kd.R_drew)); exact HO200.out, by repeat (first | (with_reducible first | exact HB.out | apply below_alloc | apply pw_below_drewN | apply below_drew1) | exact HB.out)⟩
  · replace c2 := Bool.eq_false_iff.mpr c2
    subst c2
    have H1 : (some (([(⟨#[104]⟩ : ByteArray), (⟨#[109]⟩ : ByteArray), (⟨#[115]⟩ : ByteArray), (⟨#[109, 115]⟩ : ByteArray), (⟨#[117, 115]⟩ : ByteArray), (⟨#[110, 115]⟩ : ByteArray)] : List ByteArray))) = some r := by rw [if_neg (show ¬ (false = true) by decide)] at H; exact H
    clear H
    have H := H1
    clear H1
    obtain ⟨y201, hy201⟩ : ∃ y_ : List ByteArray, y_ = (([(⟨#[104]⟩ : ByteArray), (⟨#[109]⟩ : ByteArray), (⟨#[115]⟩ : ByteArray), (⟨#[109, 115]⟩ : ByteArray), (⟨#[117, 115]⟩ : ByteArray), (⟨#[110, 115]⟩ : ByteArray)] : List ByteArray)) := ⟨_, rfl⟩
    replace H : (some y201) = some r := by first | (rw [hy201]; with_reducible exact H) | (have H2_ := (Option.bind_some _ _).symm.trans H; rw [hy201]; with_reducible exact H2_) | (have H2_ := (Option.bind_some _ _).symm.trans H; with_reducible exact H2_) | with_reducible exact H | (rw [hy201]; exact H) | exact H
    have Ny201 := Aside0.mk hy201
    clear hy201
    obtain rfl := Option.some.inj H
    go_enter Tryd.func32, Tryd.ntmps32
    go_wp2_with (first | ((with_reducible refine gate_dst (N := 5) rfl ?_); refine Kd.R_lit Kd.string _ 9 ?hg (N := 5) ?hd (xs := ([(⟨#[104]⟩ : ByteArray), (⟨#[109]⟩ : ByteArray), (⟨#[115]⟩ : ByteArray), (⟨#[109, 115]⟩ : ByteArray), (⟨#[117, 115]⟩ : ByteArray), (⟨#[110, 115]⟩ : ByteArray)] : List ByteArray)) (inner := [.string (⟨#[104]⟩ : ByteArray), .string (⟨#[109]⟩ : ByteArray), .string (⟨#[115]⟩ : ByteArray), .string (⟨#[109, 115]⟩ : ByteArray), .string (⟨#[117, 115]⟩ : ByteArray), .string (⟨#[110, 115]⟩ : ByteArray)]) (ok := fun _ => True) (okp := fun _ => True) ?hr ?hp (fun _ hk => hk) trivial (Below.refl _ _) (Nat.le_refl _) (by simp) ?_; (case hd => rfl); (case hg => rfl); (case hr => first | (go_simp; done) | (go_simp; rfl)); (case hp => exact (Reps.one (show Kd.M Kd.string _ _ _ (⟨#[104]⟩ : ByteArray) [.string (⟨#[104]⟩ : ByteArray)] from rfl) (Reps.one (show Kd.M Kd.string _ _ _ (⟨#[109]⟩ : ByteArray) [.string (⟨#[109]⟩ : ByteArray)] from rfl) (Reps.one (show Kd.M Kd.string _ _ _ (⟨#[115]⟩ : ByteArray) [.string (⟨#[115]⟩ : ByteArray)] from rfl) (Reps.one (show Kd.M Kd.string _ _ _ (⟨#[109, 115]⟩ : ByteArray) [.string (⟨#[109, 115]⟩ : ByteArray)] from rfl) (Reps.one (show Kd.M Kd.string _ _ _ (⟨#[117, 115]⟩ : ByteArray) [.string (⟨#[117, 115]⟩ : ByteArray)] from rfl) (Reps.one (show Kd.M Kd.string _ _ _ (⟨#[110, 115]⟩ : ByteArray) [.string (⟨#[110, 115]⟩ : ByteArray)] from rfl) (Reps.none _ _)))))))); intro v202 w5 ho6 hb hg_ hnew_; clear hg_ hnew_; (first | rw [← Ny201.out] at ho6 | (simp only [Int.reduceToNat] at ho6; rw [← Ny201.out] at ho6)); have n0_ := Aside0.mk (Kd.R_lower ho6 (below_size (by repeat (first | (with_reducible first | exact HB.out | apply below_alloc | apply pw_below_drewN | apply below_drew1) | exact HB.out)))); have n1_ := Aside0.mk (below_step (by repeat (first | (with_reducible first | exact HB.out | apply below_alloc | apply pw_below_drewN | apply below_drew1) | exact HB.out)) hb); clear HB; have HO203 := n0_; have HB := n1_; clear n0_ n1_; clear hb ho6))
    go_ret
    exact ⟨_, by first | rfl | (simp [errW_none, errW_some] <;> rfl) | (simp [*, errW_none, errW_some] <;> rfl), by (with_reducible repeat (first | apply Kd.R_alloc | apply Kd.R_drewN | apply Kd.R_drew)); exact HO203.out, by repeat (first | (with_reducible first | exact HB.out | apply below_alloc | apply pw_below_drewN | apply below_drew1) | exact HB.out)⟩

end Go.Proofs.YtpijoadbaocnpaaDoor.X
