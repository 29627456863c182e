/-
  The law of a duration's parts in their order, for the seat YtpijoadbaocnpaaDoor.
-/
import Derived.Test.YtpijoadbaocnpaaDoorX12
import Derived.Test.YtpijoadbaocnpaaDoorRwUnitOrder
import Derived.Test.YtpijoadbaocnpaaDoorS
set_option linter.unusedVariables false
set_option linter.unusedSimpArgs false
namespace Go.Proofs.YtpijoadbaocnpaaDoor.Pure
open Go.RowKit Go.Proofs.YtpijoadbaocnpaaDoor.X Go.Proofs.YtpijoadbaocnpaaDoor.B Go.Proofs.YtpijoadbaocnpaaDoorW.PrintWords Go.Proofs.YtpijoadbaocnpaaDoorW.PrintLast
open Lib (itoa)

theorem u8_wf {n : Int} (h : (Lit.int .u8 n).wf = true) : 0 ≤ n ∧ n ≤ 255 := by
  simp only [Lit.wf, IntKind.min, IntKind.max, IntKind.signed, IntKind.bits, Bool.and_eq_true, decide_eq_true_eq] at h
  simp at h
  omega
theorem digits_256 : ∀ k : Fin 256, (match archivistlaw03_digits.f (k.val : Int) with | some t => decide (t.data.toList = itoa (k.val : Int)) | none => false) = true := by decide +kernel
theorem digits_ev {n : Int} (h : 0 ≤ n ∧ n ≤ 255) : archivistlaw03_digits.f n = some ⟨(itoa n).toArray⟩ := by
  have h1 := digits_256 ⟨n.toNat, by omega⟩
  simp only [] at h1
  rw [show ((n.toNat : Nat) : Int) = n by omega] at h1
  cases hd : archivistlaw03_digits.f n with
  | none => rw [hd] at h1; cases h1
  | some t =>
    rw [hd] at h1
    have h2 := of_decide_eq_true h1
    congr 1
    exact by_ext (by rw [by_mk]; exact h2)
theorem headD_itoa {q : Int} (h : 0 ≤ q) (r : List UInt8) : HeadD (itoa q ++ r) := by
  right
  cases hi : itoa q with
  | nil => exact absurd hi (itoa_ne _)
  | cons c l => exact ⟨c, _, rfl, itoa_dig h c (by rw [hi]; exact List.mem_cons_self)⟩
theorem UnitOrder : archivistlaw03_UnitOrder.PureS := by
  intro h m s gh gm gs
  have hh := u8_wf gh
  have hm := u8_wf gm
  have hs := u8_wf gs
  clear gh gm gs
  refine Ev.rounds ?_
  unfold archivistlaw03_UnitOrder.f
  refine Ev.bind unitExamples_ev (Ev.pos (by first | trivial | rfl) ?_)
  have ih : in64 h := ⟨by omega, by omega⟩
  have im : in64 m := ⟨by omega, by omega⟩
  have is_ : in64 s := ⟨by omega, by omega⟩
  rw [digits_ev hh, digits_ev hm, digits_ev hs]
  have zh := text_size _ ih
  have zm := text_size _ im
  have zs := text_size _ is_
  have u0 : by_ dU[0].f0 = [104] := rfl
  have u1 : by_ dU[1].f0 = [109] := rfl
  have u2 : by_ dU[2].f0 = [115] := rfl
  have f0 : dU[0].f1 = 3600000000000 := rfl
  have f1 : dU[1].f1 = 60000000000 := rfl
  have f2 : dU[2].f1 = 1000000000 := rfl
  have hl : 6 = dU.length := rfl
  -- the three texts in a row
  have stop : ∀ d sum last, 0 ≤ last → durP (d + 1) sum last [] = (sum, true) := fun d sum last hlast => by
    simp only [durP]
    rw [if_pos ⟨by first | trivial | rfl, hlast⟩]
  have all : durL (itoa h ++ ([104] ++ (itoa m ++ ([109] ++ (itoa s ++ ([115] ++ [])))))) = (h * 3600000000000 + m * 60000000000 + s * 1000000000, true) := by
    obtain ⟨d, hd⟩ : ∃ d, (itoa h ++ ([104] ++ (itoa m ++ ([109] ++ (itoa s ++ ([115] ++ [])))))).length + 1 = d + 1 + 1 + 1 + 1 := by
      refine ⟨(itoa h ++ ([104] ++ (itoa m ++ ([109] ++ (itoa s ++ ([115] ++ [])))))).length - 3, ?_⟩
      simp <;> omega
    unfold durL
    rw [hd]
    have p0 := durP_part (d + 1 + 1 + 1) 0 (-1) 0 (by decide) ih hh.1 (headD_itoa hm.1 ([109] ++ (itoa s ++ ([115] ++ []))))
    rw [u0, f0, if_pos ⟨⟨by omega, by omega⟩, by decide, ⟨by omega, by omega⟩⟩] at p0
    rw [p0]
    have p1 := durP_part (d + 1 + 1) (0 + h * 3600000000000) (0 : Nat) 1 (by decide) im hm.1 (headD_itoa hs.1 ([115] ++ []))
    rw [u1, f1, if_pos ⟨⟨by omega, by omega⟩, by decide, ⟨by omega, by omega⟩⟩] at p1
    rw [p1]
    have p2 := durP_part (d + 1) (0 + h * 3600000000000 + m * 60000000000) (1 : Nat) 2 (by decide) is_ hs.1 (r := []) (.inl rfl)
    rw [u2, f2, if_pos ⟨⟨by omega, by omega⟩, by decide, ⟨by omega, by omega⟩⟩] at p2
    rw [p2, stop _ _ _ (by omega), Int.zero_add]
  have back : (durL (itoa m ++ ([109] ++ (itoa h ++ ([104] ++ []))))).2 = false := by
    obtain ⟨d, hd⟩ : ∃ d, (itoa m ++ ([109] ++ (itoa h ++ ([104] ++ [])))).length + 1 = d + 1 + 1 := by
      refine ⟨(itoa m ++ ([109] ++ (itoa h ++ ([104] ++ [])))).length - 1, ?_⟩
      simp <;> omega
    unfold durL
    rw [hd]
    have p0 := durP_part (d + 1) 0 (-1) 1 (by decide) im hm.1 (headD_itoa hh.1 ([104] ++ []))
    rw [u1, f1, if_pos ⟨⟨by omega, by omega⟩, by decide, ⟨by omega, by omega⟩⟩] at p0
    rw [p0]
    have p1 := durP_part d (0 + m * 60000000000) (1 : Nat) 0 (by decide) ih hh.1 (r := []) (.inl rfl)
    rw [u0, f0, if_neg (fun e => by have := e.2.1; omega)] at p1
    rw [p1]
  have twice : (durL (itoa s ++ ([115] ++ (itoa s ++ ([115] ++ []))))).2 = false := by
    obtain ⟨d, hd⟩ : ∃ d, (itoa s ++ ([115] ++ (itoa s ++ ([115] ++ [])))).length + 1 = d + 1 + 1 := by
      refine ⟨(itoa s ++ ([115] ++ (itoa s ++ ([115] ++ [])))).length - 1, ?_⟩
      simp <;> omega
    unfold durL
    rw [hd]
    have p0 := durP_part (d + 1) 0 (-1) 2 (by decide) is_ hs.1 (headD_itoa hs.1 ([115] ++ []))
    rw [u2, f2, if_pos ⟨⟨by omega, by omega⟩, by decide, ⟨by omega, by omega⟩⟩] at p0
    rw [p0]
    have p1 := durP_part d (0 + s * 1000000000) (2 : Nat) 2 (by decide) is_ hs.1 (r := []) (.inl rfl)
    rw [u2, f2, if_neg (fun e => by have := e.2.1; omega)] at p1
    rw [p1]
  have one : durL (itoa m ++ ([109] ++ [])) = (m * 60000000000, true) := by
    obtain ⟨d, hd⟩ : ∃ d, (itoa m ++ ([109] ++ [])).length + 1 = d + 1 + 1 := by
      refine ⟨(itoa m ++ ([109] ++ [])).length - 1, ?_⟩
      have := List.length_pos_iff.2 (itoa_ne m)
      simp <;> omega
    unfold durL
    rw [hd]
    have p0 := durP_part (d + 1) 0 (-1) 1 (by decide) im hm.1 (r := []) (.inl rfl)
    rw [u1, f1, if_pos ⟨⟨by omega, by omega⟩, by decide, ⟨by omega, by omega⟩⟩] at p0
    rw [p0, stop _ _ _ (by omega), Int.zero_add]
  obtain ⟨th, hth⟩ : ∃ t : ByteArray, t = ⟨(itoa h).toArray⟩ := ⟨_, rfl⟩
  obtain ⟨tm, htm⟩ : ∃ t : ByteArray, t = ⟨(itoa m).toArray⟩ := ⟨_, rfl⟩
  obtain ⟨ts, hts⟩ : ∃ t : ByteArray, t = ⟨(itoa s).toArray⟩ := ⟨_, rfl⟩
  rw [← hth] at zh ⊢
  rw [← htm] at zm ⊢
  rw [← hts] at zs ⊢
  have bh : by_ th = itoa h := by rw [hth, by_mk]
  have bm : by_ tm = itoa m := by rw [htm, by_mk]
  have bs : by_ ts = itoa s := by rw [hts, by_mk]
  have k104 : by_ (⟨#[104]⟩ : ByteArray) = [104] := rfl
  have k109 : by_ (⟨#[109]⟩ : ByteArray) = [109] := rfl
  have k115 : by_ (⟨#[115]⟩ : ByteArray) = [115] := rfl
  have s104 : (⟨#[104]⟩ : ByteArray).size = 1 := rfl
  have s109 : (⟨#[109]⟩ : ByteArray).size = 1 := rfl
  have s115 : (⟨#[115]⟩ : ByteArray).size = 1 := rfl
  have e1 := dur_ev ((th ++ ⟨#[104]⟩) ++ (tm ++ ⟨#[109]⟩) ++ (ts ++ ⟨#[115]⟩)) (by simp only [ByteArray.size_append]; omega)
  have e2 := dur_ev ((tm ++ ⟨#[109]⟩) ++ (th ++ ⟨#[104]⟩)) (by simp only [ByteArray.size_append]; omega)
  have e3 := dur_ev ((ts ++ ⟨#[115]⟩) ++ (ts ++ ⟨#[115]⟩)) (by simp only [ByteArray.size_append]; omega)
  have e4 := dur_ev (tm ++ ⟨#[109]⟩) (by simp only [ByteArray.size_append]; omega)
  simp only [by_append, bh, bm, bs, k104, k109, k115, List.append_assoc] at e1 e2 e3 e4
  rw [List.append_nil] at all back twice one
  rw [all] at e1
  rw [one] at e4
  refine Ev.one (Ev.pos (by omega) (Ev.one (Ev.pos (by omega) (Ev.one (Ev.pos (by omega) (Ev.pos (by simp only [ByteArray.size_append]; omega) (Ev.pos (by simp only [ByteArray.size_append]; omega) (Ev.bind e1 (Ev.pos (by simp only [ByteArray.size_append]; omega) (Ev.bind e2 (Ev.pos (by simp only [ByteArray.size_append]; omega) (Ev.bind e3 (Ev.bind e4 ?_)))))))))))))
  refine Ev.pos rfl (Ev.pos ?_ (Ev.neg (by rw [back]; simp) (Ev.neg (by rw [twice]; simp) (Ev.pos rfl (Ev.ret ?_)))))
  · show h * 3600000000000 + m * 60000000000 + s * 1000000000 = _
    unfold wrap64
    omega
  · show (m * 60000000000 == _) = true
    rw [beq_iff_eq]
    unfold wrap64
    omega
end Go.Proofs.YtpijoadbaocnpaaDoor.Pure
