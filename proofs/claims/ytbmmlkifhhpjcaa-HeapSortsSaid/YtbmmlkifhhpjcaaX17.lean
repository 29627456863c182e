/- Drain of a heap (instance int). -/
import Derived.Test.YtbmmlkifhhpjcaaX16
namespace Go.Proofs.Ytbmmlkifhhpjcaa.X
open Go.RowKit Go.Proofs.YtbmmlkifhhpjcaaW.PrintWords Go.Proofs.YtbmmlkifhhpjcaaW.PrintLast Go.Proofs.YtbmmlkifhhpjcaaW.PrintMore
attribute [local go_sem] max2_int min2_int max_two min_two max_three min_three max_four min_four
set_option linter.unusedVariables false
set_option linter.unusedSimpArgs false

open Go.Proofs.Ytbmmlkifhhpjcaa
set_option maxHeartbeats 1000000 in
set_option maxRecDepth 1000000 in
theorem drain92_calls (W : World) (g base : Nat) (row : Option Nat) (L : List S92) (came : Int) (hS : HS92 W g base row L came) (hp : Hp ah92 L) (hl : L.length < 1099511627776) :
    Calls Try.prog 13 #[.pointer (some ⟨g, 0, none⟩)] W fun e w' => ∃ v, e = .returned v ∧ Kd.R (Kd.int .i64) 3 w' W.heap.size (fun _ => True) v ((drainF ah92 L.length L).map (·.f0)) ∧ HS92 w' g base row [] came ∧ HpTo W w' g base row row := by
  have hsz := hS.lt
  have hrw := hS.row_
  have HSZ := Aside0.mk (And.intro hsz hrw)
  have HS := Aside0.mk hS
  have HL := Aside0.mk hl
  have HP := Aside0.mk hp
  obtain ⟨R, hR⟩ : ∃ R, (drainF ah92 L.length L).map (·.f0) = R := ⟨_, rfl⟩
  rw [hR]
  have HRE := Aside0.mk hR
  clear hS hl hp hR hsz hrw
  go_enter Try.func13, Try.ntmps13
  go_upto_region 2 with (fail)
  go_cut [4, 5, 6, 8, 9, 10] (fun v4 v5 v6 v8 v9 v10 wc => ∃ (ok : Bool) (x : Int) (M : List S92), v4 = .int .i64 x ∧ v5 = .bool ok ∧ Aside0 (M.length < 1099511627776) ∧ Aside0 (Hp ah92 M) ∧ Aside0 ((ok = true ∧ x :: (drainF ah92 M.length M).map (·.f0) = R) ∨ (ok = false ∧ R = [] ∧ M = [])) ∧ Aside0 (HS92 wc g base row M came) ∧ Aside0 (HpTo W wc g base row row))
  case first =>
    by_cases h0 : 0 < L.length
    · have HPS := Aside0.mk (popF_spec hord92 L HP.out h0).1
      have hpl := popF_len hord92 L HP.out h0
      have HR2 : Aside0 ((hgt L 0).f0 :: (drainF ah92 (popF ah92 L).length (popF ah92 L)).map (·.f0) = R) := ⟨by
        rw [← HRE.out, ← hpl]
        rfl⟩
      have HL2 := Aside0.mk (show (popF ah92 L).length < 1099511627776 by have := HL.out; omega)
      clear hpl
      go_wp2_with (go_at_call 11; (with_reducible refine (pop92_some _ g base row L came HS.out h0 HL.out).mono ?_); rintro e w1 ⟨rfl, hS1, hT1⟩; have HS1 := Aside0.mk hS1; have HT1 := Aside0.mk hT1; clear hS1 hT1)
      go_meet
      case rel => exact ⟨true, _, _, rfl, rfl, HL2, HPS, ⟨.inl ⟨rfl, HR2.out⟩⟩, HS1, HT1⟩
    · have hnil : L = [] := List.eq_nil_of_length_eq_zero (by omega)
      have HR2 : Aside0 (R = []) := ⟨by rw [← HRE.out, hnil]; rfl⟩
      have HN := Aside0.mk hnil
      have h00 : L.length = 0 := by omega
      clear hnil h0
      go_wp2_with (go_at_call 11; (with_reducible refine (pop92_none _ g base row L came HS.out h00).mono ?_); rintro e w1 ⟨rfl, rfl⟩)
      go_meet
      case rel => exact ⟨false, 0, L, rfl, rfl, HL, HP, ⟨.inr ⟨rfl, HR2.out, HN.out⟩⟩, HS, ⟨HpTo.refl _ _ _ _⟩⟩
  case rest =>
    clear HS HL HP HRE
    obtain ⟨ok0, x0, M0, rfl, rfl, HL, HP, HD, HS, HT⟩ := hcut
    go_wp2
    go_loopg [3, 4, 5] (M0.length + 2) (fun kq v3 v4 v5 wr => ∃ (ok : Bool) (x : Int) (M : List S92) (done : List Int), v4 = .int .i64 x ∧ v5 = .bool ok ∧ Aside0 (M.length + (if ok = true then 2 else 1) ≤ kq) ∧ Aside0 (done.length + M.length + (if ok = true then 1 else 0) ≤ M0.length + 1) ∧ Aside0 (Hp ah92 M) ∧ Aside0 ((ok = true ∧ done ++ x :: (drainF ah92 M.length M).map (·.f0) = R) ∨ (ok = false ∧ done = R ∧ M = [])) ∧ Aside0 (HS92 wr g base row M came) ∧ Aside0 (HpTo W wr g base row row) ∧ Aside0 (Kd.R (Kd.int .i64) 3 wr W.heap.size (fun _ => True) v3 done))
    case atStart => exact ⟨ok0, x0, M0, [], rfl, rfl, ⟨by split <;> omega⟩, ⟨by simp only [List.length_nil]; split <;> omega⟩, HP, ⟨by rcases HD.out with h | ⟨h1, h2, h3⟩; exact .inl h; exact .inr ⟨h1, h2.symm, h3⟩⟩, HS, HT, ⟨Kd.R_nil _ _ _ _ _⟩⟩
    case round =>
      have HL0 := HL
      clear HS HL HP HD HT
      obtain ⟨ok, x, M, done, rfl, rfl, HK, HL1, HP, HD, HS, HT, HO⟩ := hrel
      obtain ⟨Ao, co, rfl⟩ := Kd.R_slice HO.out
      cases ok
      · obtain ⟨hd, hm⟩ : done = R ∧ M = [] := by
          rcases HD.out with ⟨h, _⟩ | ⟨_, h⟩
          · cases h
          · exact h
        have HM := Aside0.mk hm
        have HDN := Aside0.mk hd
        clear hd hm HD
        go_wp2
        go_ret
        exact ⟨_, rfl, HDN.out ▸ HO.out, HM.out ▸ HS.out, HT.out⟩
      · have hD : done ++ x :: (drainF ah92 M.length M).map (·.f0) = R := by
          rcases HD.out with ⟨_, h⟩ | ⟨h, _⟩
          · exact h
          · cases h
        have HDN := Aside0.mk hD
        have hk2 : M.length + 2 ≤ gk := by have := HK.out; simpa using this
        have HK2 := Aside0.mk hk2
        have HBS := Aside0.mk (Nat.le_trans HSZ.out.1.2 (Nat.le_of_lt HSZ.out.1.1))
        have HLM := Aside0.mk (show (done.length + 1) * 8 ≤ 140737488355328 by have h1 := HL1.out; have := HL0.out; rw [if_pos rfl] at h1; omega)
        have HWS := Aside0.mk HT.out.keep.1
        have HLX := Aside0.mk (show done.length + M.length + 1 ≤ M0.length + 1 by have h1 := HL1.out; rwa [if_pos rfl] at h1)
        clear hD hk2 HD HK HL1
        go_upto_region 4 with ((with_reducible refine gate_builtin (b := .append) (xs := #[.tmp 17, .tmp 19]) rfl ?_); at_builtin; refine Kd.R_append (Kd.int .i64) (w0 := wr) W.heap.size rfl (.tmp 17) (.tmp 19) 22 3 (.int .i64 0) 8 rfl Try.underlying22 infoE92 rfl (by decide) (by omega) (.slice Ao done.length co) done x [.int .i64 x] (fun _ => True) (fun _ => False) rfl rfl rfl (fun _ hk => hk.elim) (fun _ _ => trivial) HO.out (Below.refl _ _) HWS.out HLM.out ?_; intro v1 w1 ho hb hg hat; obtain ⟨A1, c1, rfl⟩ := Kd.R_slice ho; have HO1 := Aside0.mk ho; have HB1 := Aside0.mk hb; have HG1 := Aside0.mk hg; clear ho hb hg hat)
        have hob : ∀ k, (Value.slice Ao done.length co).ownBlock = some k → W.heap.size ≤ k := fun k hk => Kd.R_base HO.out k hk
        have n1_ : Aside0 (HS92 w1 g base row M came) := ⟨HS.out.grown rfl HG1.out (fun e => by have := hob _ e.symm; have := HSZ.out.1.1; omega) (fun b hb e => by have := hob _ e.symm; have := (HSZ.out.2 b hb).2.1; omega)⟩
        have n2_ : Aside0 (HpTo W w1 g base row row) := ⟨HT.out.then_above HB1.out HBS.out⟩
        clear HS HT HO HB1 HG1 hob HWS
        have HS := n1_
        have HT := n2_
        clear n1_ n2_
        by_cases h0 : 0 < M.length
        · have HPS := Aside0.mk (popF_spec hord92 M HP.out h0).1
          have hpl := popF_len hord92 M HP.out h0
          have HDN2 : Aside0 ((done ++ [x]) ++ (hgt M 0).f0 :: (drainF ah92 (popF ah92 M).length (popF ah92 M)).map (·.f0) = R) := ⟨by
            rw [← HDN.out, ← hpl, List.append_assoc]
            rfl⟩
          have hm40 : M.length < 1099511627776 := by have h1 := HLX.out; have := HL0.out; omega
          have HPL := Aside0.mk hpl
          clear hpl
          go_wp2_with (go_at_call 11; (with_reducible refine (pop92_some _ g base row M came HS.out h0 hm40).mono ?_); rintro e w2 ⟨rfl, hS2, hT2⟩; have HS2 := Aside0.mk hS2; have HT2 := Aside0.mk hT2; clear hS2 hT2)
          have n3_ : Aside0 (Kd.R (Kd.int .i64) 3 w2 W.heap.size (fun _ => True) (.slice A1 (done ++ [x]).length c1) (done ++ [x])) := ⟨rowR_keep rfl HO1.out HT2.out.keep (fun b hb => by
            have h1 := Kd.R_base HO1.out b hb
            exact ⟨by have := HSZ.out.1.1; omega, fun e => by have := (HSZ.out.2 b e.symm).2.1; omega⟩)⟩
          go_roundg (gk - 1)
          case measure => have := HK2.out; omega
          case rel => exact ⟨true, _, popF ah92 M, done ++ [x], rfl, rfl, ⟨by have := HK2.out; have := HPL.out; rw [if_pos rfl]; omega⟩, ⟨by have h1 := HLX.out; have := HPL.out; rw [if_pos rfl]; simp only [List.length_append, List.length_singleton]; omega⟩, HPS, ⟨.inl ⟨rfl, HDN2.out⟩⟩, HS2, ⟨HT.out.trans HT2.out⟩, ⟨by have := n3_.out; rwa [List.length_append, List.length_singleton] at this⟩⟩
        · have hnil : M = [] := List.eq_nil_of_length_eq_zero (by omega)
          have h00 : M.length = 0 := by omega
          have HDN2 : Aside0 (done ++ [x] = R) := ⟨by rw [← HDN.out, hnil]; rfl⟩
          have HN := Aside0.mk hnil
          clear hnil h0
          go_wp2_with (go_at_call 11; (with_reducible refine (pop92_none _ g base row M came HS.out h00).mono ?_); rintro e w2 ⟨rfl, rfl⟩)
          go_roundg (gk - 1)
          case measure => have := HK2.out; omega
          case rel => exact ⟨false, 0, M, done ++ [x], rfl, rfl, ⟨by have := HK2.out; rw [if_neg (by simp)]; omega⟩, ⟨by have h1 := HLX.out; rw [if_neg (by simp)]; simp only [List.length_append, List.length_singleton]; omega⟩, HP, ⟨.inr ⟨rfl, HDN2.out, HN.out⟩⟩, HS, HT, ⟨by have := HO1.out; rwa [List.length_append, List.length_singleton] at this⟩⟩
end Go.Proofs.Ytbmmlkifhhpjcaa.X
