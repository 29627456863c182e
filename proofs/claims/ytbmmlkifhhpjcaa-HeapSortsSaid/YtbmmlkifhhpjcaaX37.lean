/- Drain of a heap (instance two). -/
import Derived.Test.YtbmmlkifhhpjcaaX36
namespace Go.Proofs.Ytbmmlkifhhpjcaa.X
open Go.RowKit Go.Proofs.YtbmmlkifhhpjcaaW.PrintWords Go.Proofs.YtbmmlkifhhpjcaaW.PrintLast Go.Proofs.YtbmmlkifhhpjcaaW.PrintMore
attribute [local go_sem] max2_int min2_int max_two min_two max_three min_three max_four min_four
set_option linter.unusedVariables false
set_option linter.unusedSimpArgs false

open Go.Proofs.Ytbmmlkifhhpjcaa
set_option maxHeartbeats 1000000 in
set_option maxRecDepth 1000000 in
theorem drain96_calls (W : World) (g base : Nat) (row : Option Nat) (L : List S96) (came : Int) (hS : HS96 W g base row L came) (hp : Hp ah96 L) (hl : L.length < 1099511627776) :
    Calls Try.prog 21 #[.pointer (some ⟨g, 0, none⟩)] W fun e w' => ∃ v, e = .returned v ∧ Kd.R k48 48 w' W.heap.size (fun _ => True) v ((drainF ah96 L.length L).map (·.f0)) ∧ HS96 w' g base row [] came ∧ HpTo W w' g base row row := by
  have hsz := hS.lt
  have hrw := hS.row_
  have HSZ := Aside0.mk (And.intro hsz hrw)
  have HS := Aside0.mk hS
  have HL := Aside0.mk hl
  have HP := Aside0.mk hp
  obtain ⟨R, hR⟩ : ∃ R, (drainF ah96 L.length L).map (·.f0) = R := ⟨_, rfl⟩
  rw [hR]
  have HRE := Aside0.mk hR
  clear hS hl hp hR hsz hrw
  go_enter Try.func21, Try.ntmps21
  go_upto_region 2 with (fail)
  go_cut [4, 5, 6, 8, 9, 10] (fun v4 v5 v6 v8 v9 v10 wc => ∃ (ok : Bool) (x : S48) (gb : Nat) (M : List S96), v4 = .pointer (some ⟨gb, 0, none⟩) ∧ v5 = .bool ok ∧ Aside0 (wc.heap[gb]? = some (.cells #[.string x.f0, .int .i64 x.f1] 48 (0, 0)) ∧ W.heap.size ≤ gb) ∧ Aside0 (M.length < 1099511627776) ∧ Aside0 (Hp ah96 M) ∧ Aside0 ((ok = true ∧ x :: (drainF ah96 M.length M).map (·.f0) = R) ∨ (ok = false ∧ R = [] ∧ M = [])) ∧ Aside0 (HS96 wc g base row M came) ∧ Aside0 (HpTo W wc g base row row))
  case first =>
    by_cases h0 : 0 < L.length
    · have HPS := Aside0.mk (popF_spec hord96 L HP.out h0).1
      have hpl := popF_len hord96 L HP.out h0
      have HR2 : Aside0 ((hgt L 0).f0 :: (drainF ah96 (popF ah96 L).length (popF ah96 L)).map (·.f0) = R) := ⟨by
        rw [← HRE.out, ← hpl]
        rfl⟩
      have HL2 := Aside0.mk (show (popF ah96 L).length < 1099511627776 by have := HL.out; omega)
      clear hpl
      go_wp2_with (go_at_call 23; (with_reducible refine (pop96_some _ g base row L came HS.out h0 HL.out).mono ?_); rintro e w1 ⟨rfl, hS1, hT1⟩; have HS1 := Aside0.mk hS1; have HT1 := Aside0.mk hT1; clear hS1 hT1)
      go_meet
      case rel => exact ⟨true, (hgt L 0).f0, _, _, rfl, rfl, ⟨blk_new w1 _, HT1.out.keep.1⟩, HL2, HPS, ⟨.inl ⟨rfl, HR2.out⟩⟩, ⟨HS1.out.below (below_alloc (Below.refl _ _) _)⟩, ⟨HT1.out.then_below (below_alloc (Below.refl _ _) _) HS1.out.size⟩⟩
    · have hnil : L = [] := List.eq_nil_of_length_eq_zero (by omega)
      have HR2 : Aside0 (R = []) := ⟨by rw [← HRE.out, hnil]; rfl⟩
      have HN := Aside0.mk hnil
      have h00 : L.length = 0 := by omega
      clear hnil h0
      go_wp2_with (go_at_call 23; (with_reducible refine (pop96_none _ g base row L came HS.out h00).mono ?_); rintro e w1 ⟨rfl, hb1⟩; have HB1 := Aside0.mk hb1; clear hb1)
      go_meet
      case rel => exact ⟨false, z48, _, L, rfl, rfl, ⟨blk_new w1 _, HB1.out.size⟩, HL, HP, ⟨.inr ⟨rfl, HR2.out, HN.out⟩⟩, ⟨(HS.out.below HB1.out).below (below_alloc (Below.refl _ _) _)⟩, ⟨((HpTo.refl W g base row).then_below HB1.out HS.out.size).then_below (below_alloc (Below.refl _ _) _) (Nat.le_trans HS.out.size HB1.out.size)⟩⟩
  case rest =>
    clear HS HL HP HRE
    obtain ⟨ok0, x0, gb0, M0, rfl, rfl, HK0, HL, HP, HD, HS, HT⟩ := hcut
    go_wp2
    go_loopg [3, 4, 5] (M0.length + 2) (fun kq v3 v4 v5 wr => ∃ (ok : Bool) (x : S48) (gb : Nat) (M : List S96) (done : List S48), v4 = .pointer (some ⟨gb, 0, none⟩) ∧ v5 = .bool ok ∧ Aside0 (wr.heap[gb]? = some (.cells #[.string x.f0, .int .i64 x.f1] 48 (0, 0)) ∧ W.heap.size ≤ gb) ∧ Aside0 (M.length + (if ok = true then 2 else 1) ≤ kq) ∧ Aside0 (done.length + M.length + (if ok = true then 1 else 0) ≤ M0.length + 1) ∧ Aside0 (Hp ah96 M) ∧ Aside0 ((ok = true ∧ done ++ x :: (drainF ah96 M.length M).map (·.f0) = R) ∨ (ok = false ∧ done = R ∧ M = [])) ∧ Aside0 (HS96 wr g base row M came) ∧ Aside0 (HpTo W wr g base row row) ∧ Aside0 (Kd.R k48 48 wr W.heap.size (fun k => k ≠ gb) v3 done))
    case atStart => exact ⟨ok0, x0, gb0, M0, [], rfl, rfl, HK0, ⟨by split <;> omega⟩, ⟨by simp only [List.length_nil]; split <;> omega⟩, HP, ⟨by rcases HD.out with h | ⟨h1, h2, h3⟩; exact .inl h; exact .inr ⟨h1, h2.symm, h3⟩⟩, HS, HT, ⟨Kd.R_nil _ _ _ _ _⟩⟩
    case round =>
      have HL0 := HL
      clear HS HL HP HD HT HK0
      obtain ⟨ok, x, gb, M, done, rfl, rfl, HKB, HK, HL1, HP, HD, HS, HT, HO⟩ := hrel
      obtain ⟨Ao, co, rfl⟩ := Kd.R_slice HO.out
      cases ok
      · obtain ⟨hd, hm⟩ : done = R ∧ M = [] := by
          rcases HD.out with ⟨h, _⟩ | ⟨_, h⟩
          · cases h
          · exact h
        have HM := Aside0.mk hm
        have HDN := Aside0.mk hd
        clear hd hm HD
        go_wp2
        go_ret
        exact ⟨_, rfl, HDN.out ▸ Kd.R_mono HO.out (fun _ _ => trivial), HM.out ▸ HS.out, HT.out⟩
      · have hD : done ++ x :: (drainF ah96 M.length M).map (·.f0) = R := by
          rcases HD.out with ⟨_, h⟩ | ⟨h, _⟩
          · exact h
          · cases h
        have HDN := Aside0.mk hD
        have hk2 : M.length + 2 ≤ gk := by have := HK.out; simpa using this
        have HK2_ := Aside0.mk hk2
        have HBS := Aside0.mk (Nat.le_trans HSZ.out.1.2 (Nat.le_of_lt HSZ.out.1.1))
        have HLM := Aside0.mk (show (done.length + 1) * 24 ≤ 140737488355328 by have h1 := HL1.out; have := HL0.out; rw [if_pos rfl] at h1; omega)
        have HWS := Aside0.mk HT.out.keep.1
        have HLX := Aside0.mk (show done.length + M.length + 1 ≤ M0.length + 1 by have h1 := HL1.out; rwa [if_pos rfl] at h1)
        clear hD hk2 HD HK HL1
        have k0 : wr.cell? ⟨gb, 0, none⟩ = some (.string x.f0) := (blk_cell HKB.out.1 0).trans rfl
        have k1 : wr.cell? ⟨gb, 1, none⟩ = some (.int .i64 x.f1) := (blk_cell HKB.out.1 1).trans rfl
        have HGL := Aside0.mk (blk_lt HKB.out.1)
        go_upto_region 6 with ((with_reducible refine gate_builtin (b := .append) (xs := #[.tmp 17, .tmp 19]) rfl ?_); at_builtin; refine Kd.R_append k48 (w0 := wr) W.heap.size rfl (.tmp 17) (.tmp 19) 46 48 (.agg #[.string ⟨#[]⟩, .int .i64 0]) 24 rfl Try.underlying46 infoE96 rfl (by decide) (by omega) (.slice Ao done.length co) done x [.string x.f0, .int .i64 x.f1] (fun k => k ≠ gb) (fun _ => False) rfl rfl (k48_mkM _ _ _ x) (fun _ hk => hk.elim) (fun k hk => by have := HGL.out; omega) HO.out (Below.refl _ _) HWS.out HLM.out ?_; intro v1 w1 ho hb hg hat; obtain ⟨A1, c1, rfl⟩ := Kd.R_slice ho; have HO1 := Aside0.mk ho; have HB1 := Aside0.mk hb; have HG1 := Aside0.mk hg; clear ho hb hg hat k0 k1; have hk1_ := blk_grown HKB.out.1 HG1.out (fun e => HO.out.1 gb e.symm rfl); have k0 : w1.cell? ⟨gb, 0, none⟩ = some (.string x.f0) := (blk_cell hk1_ 0).trans rfl; have k1 : w1.cell? ⟨gb, 1, none⟩ = some (.int .i64 x.f1) := (blk_cell hk1_ 1).trans rfl; clear hk1_)
        have hob : ∀ k, (Value.slice Ao done.length co).ownBlock = some k → W.heap.size ≤ k := fun k hk => Kd.R_base HO.out k hk
        have n1_ : Aside0 (HS96 w1 g base row M came) := ⟨HS.out.grown (kd := k96) rfl HG1.out (fun e => by have := hob _ e.symm; have := HSZ.out.1.1; omega) (fun b hb e => by have := hob _ e.symm; have := (HSZ.out.2 b hb).2.1; omega)⟩
        have n2_ : Aside0 (HpTo W w1 g base row row) := ⟨HT.out.then_above HB1.out HBS.out⟩
        clear HS HT HO HB1 HG1 hob HWS HKB HGL
        have HS := n1_
        have HT := n2_
        clear n1_ n2_
        go_upto_region 4 with (fail)
        have HK2 := Aside0.mk (blk_new w1 (.cells #[.string x.f0, .int .i64 x.f1] 48))
        have n1_ := Aside0.mk (HS.out.below (below_alloc (Below.refl _ _) (.cells #[.string x.f0, .int .i64 x.f1] 48)))
        have n2_ := Aside0.mk (HT.out.then_below (below_alloc (Below.refl _ _) (.cells #[.string x.f0, .int .i64 x.f1] 48)) HS.out.size)
        have n3_ := Aside0.mk (Kd.R_alloc HO1.out (.cells #[.string x.f0, .int .i64 x.f1] 48))
        have HWG := Aside0.mk HT.out.keep.1
        have HOK := Aside0.mk (fun k (hk : (Value.slice A1 (done ++ [x]).length c1).ownBlock = some k) => And.intro (Kd.R_base HO1.out k hk) (Kd.R_lt HO1.out k hk))
        clear HS HT HO1 k0 k1
        have HS := n1_
        have HT := n2_
        have HO1 := n3_
        clear n1_ n2_ n3_
        generalize w1.alloc (.cells #[.string x.f0, .int .i64 x.f1] 48) = w2 at HK2 HS HT HO1 ⊢
        generalize w1.heap.size = gc at HK2 HWG HOK ⊢
        have hgn : gc ≠ g ∧ some gc ≠ row := ⟨by have := HSZ.out.1.1; have := HWG.out; omega, fun e => by have := (HSZ.out.2 gc e.symm).2.1; have := HWG.out; omega⟩
        have HGN := Aside0.mk hgn
        have hbx := fun (w5 : World) (h5 : HpTo W w5 g base row row) (j : Nat) (u : Value) => (⟨h5.grow, h5.below.setCell (p := ⟨gc, j, none⟩) (Nat.le_trans HBS.out HWG.out) u, ⟨by have := h5.keep.1; simpa [World.setCell] using this, fun k hk h1 h2 => (Below.heap_setCell w5 ⟨gc, j, none⟩ u k (by have := HWG.out; show k ≠ gc; omega)).trans (h5.keep.2 k hk h1 h2)⟩⟩ : HpTo W (w5.setCell ⟨gc, j, none⟩ u) g base row row)
        have HBX := Aside0.mk hbx
        clear hgn hbx
        by_cases h0 : 0 < M.length
        · have HPS := Aside0.mk (popF_spec hord96 M HP.out h0).1
          have hpl := popF_len hord96 M HP.out h0
          have HDN2 : Aside0 ((done ++ [x]) ++ (hgt M 0).f0 :: (drainF ah96 (popF ah96 M).length (popF ah96 M)).map (·.f0) = R) := ⟨by
            rw [← HDN.out, ← hpl, List.append_assoc]
            rfl⟩
          have hm40 : M.length < 1099511627776 := by have h1 := HLX.out; have := HL0.out; omega
          have HPL := Aside0.mk hpl
          clear hpl
          go_wp2_with (go_at_call 23; (with_reducible refine (pop96_some _ g base row M came HS.out h0 hm40).mono ?_); rintro e w3 ⟨rfl, hS2, hT2⟩; have HS2 := Aside0.mk hS2; have HT2 := Aside0.mk hT2; have HK3 := Aside0.mk (hT2.keep.blk HK2.out HGN.out.1 HGN.out.2); clear hS2 hT2; have k0 : w3.cell? ⟨gc, 0, none⟩ = some (.string x.f0) := (blk_cell HK3.out 0).trans rfl; have k1 : w3.cell? ⟨gc, 1, none⟩ = some (.int .i64 x.f1) := (blk_cell HK3.out 1).trans rfl; have kf0 : w3.frozen? ⟨gc, 0, none⟩ = false := blk_frozen HK3.out 0; have kf1 : w3.frozen? ⟨gc, 1, none⟩ = false := blk_frozen HK3.out 1)
          have n3_ : Kd.R k48 48 w3 W.heap.size (fun k => k ≠ gb) (.slice A1 (done ++ [x]).length c1) (done ++ [x]) := rowR_keep (kd := k48) rfl HO1.out HT2.out.keep (fun b hb => by
            have h1 := (HOK.out b hb).1
            exact ⟨by have := HSZ.out.1.1; omega, fun e => by have := (HSZ.out.2 b e.symm).2.1; omega⟩)
          have n4_ : Kd.R k48 48 w3 W.heap.size (fun k => k ≠ gc) (.slice A1 (done ++ [x]).length c1) (done ++ [x]) := Kd.R_reok rfl n3_ (fun k hk => Nat.ne_of_lt (HOK.out k hk).2)
          have n5_ := Aside0.mk (Kd.R_far (p := ⟨gc, 1, none⟩) (Kd.R_far (p := ⟨gc, 0, none⟩) n4_ (fun _ h => h) (.string (hgt M 0).f0.f0)) (fun _ h => h) (.int .i64 (hgt M 0).f0.f1))
          clear n3_ n4_
          go_roundg (gk - 1)
          case measure => have := HK2_.out; omega
          case rel => exact ⟨true, (hgt M 0).f0, gc, popF ah96 M, done ++ [x], rfl, rfl, ⟨blk_put (blk_put HK3.out 0 _ rfl) 1 _ rfl, HWG.out⟩, ⟨by have := HK2_.out; have := HPL.out; rw [if_pos rfl]; omega⟩, ⟨by have h1 := HLX.out; have := HPL.out; rw [if_pos rfl]; simp only [List.length_append, List.length_singleton]; omega⟩, HPS, ⟨.inl ⟨rfl, HDN2.out⟩⟩, ⟨(HS2.out.aside (Ne.symm HGN.out.1) (fun b hb e => HGN.out.2 (by rw [hb, e])) 0 _).aside (Ne.symm HGN.out.1) (fun b hb e => HGN.out.2 (by rw [hb, e])) 1 _⟩, ⟨HBX.out _ (HBX.out _ (HT.out.trans HT2.out) 0 _) 1 _⟩, ⟨by have := n5_.out; rwa [List.length_append, List.length_singleton] at this⟩⟩
        · have hnil : M = [] := List.eq_nil_of_length_eq_zero (by omega)
          have h00 : M.length = 0 := by omega
          have HDN2 : Aside0 (done ++ [x] = R) := ⟨by rw [← HDN.out, hnil]; rfl⟩
          have HN := Aside0.mk hnil
          clear hnil h0
          go_wp2_with (go_at_call 23; (with_reducible refine (pop96_none _ g base row M came HS.out h00).mono ?_); rintro e w3 ⟨rfl, hb2⟩; have HB3 := Aside0.mk hb2; have HK3 := Aside0.mk (blk_below HK2.out hb2); clear hb2; have k0 : w3.cell? ⟨gc, 0, none⟩ = some (.string x.f0) := (blk_cell HK3.out 0).trans rfl; have k1 : w3.cell? ⟨gc, 1, none⟩ = some (.int .i64 x.f1) := (blk_cell HK3.out 1).trans rfl; have kf0 : w3.frozen? ⟨gc, 0, none⟩ = false := blk_frozen HK3.out 0; have kf1 : w3.frozen? ⟨gc, 1, none⟩ = false := blk_frozen HK3.out 1)
          have n4_ : Kd.R k48 48 w3 W.heap.size (fun k => k ≠ gc) (.slice A1 (done ++ [x]).length c1) (done ++ [x]) := Kd.R_reok rfl (Kd.R_below HO1.out HB3.out) (fun k hk => Nat.ne_of_lt (HOK.out k hk).2)
          have n5_ := Aside0.mk (Kd.R_far (p := ⟨gc, 1, none⟩) (Kd.R_far (p := ⟨gc, 0, none⟩) n4_ (fun _ h => h) (.string ⟨#[]⟩)) (fun _ h => h) (.int .i64 0))
          clear n4_
          go_roundg (gk - 1)
          case measure => have := HK2_.out; omega
          case rel => exact ⟨false, z48, gc, M, done ++ [x], rfl, rfl, ⟨blk_put (blk_put HK3.out 0 _ rfl) 1 _ rfl, HWG.out⟩, ⟨by have := HK2_.out; rw [if_neg (by simp)]; omega⟩, ⟨by have h1 := HLX.out; rw [if_neg (by simp)]; simp only [List.length_append, List.length_singleton]; omega⟩, HP, ⟨.inr ⟨rfl, HDN2.out, HN.out⟩⟩, ⟨((HS.out.below HB3.out).aside (Ne.symm HGN.out.1) (fun b hb e => HGN.out.2 (by rw [hb, e])) 0 _).aside (Ne.symm HGN.out.1) (fun b hb e => HGN.out.2 (by rw [hb, e])) 1 _⟩, ⟨HBX.out _ (HBX.out _ (HT.out.then_below HB3.out HS.out.size) 0 _) 1 _⟩, ⟨by have := n5_.out; rwa [List.length_append, List.length_singleton] at this⟩⟩
end Go.Proofs.Ytbmmlkifhhpjcaa.X
