/- What goes up in a heap, and what goes down (instance int). -/
import Derived.Test.YtbmmlkifhhpjcaaX12
namespace Go.Proofs.Ytbmmlkifhhpjcaa.X
open Go.RowKit Go.Proofs.YtbmmlkifhhpjcaaW.PrintWords Go.Proofs.YtbmmlkifhhpjcaaW.PrintLast Go.Proofs.YtbmmlkifhhpjcaaW.PrintMore
attribute [local go_sem] max2_int min2_int max_two min_two max_three min_three max_four min_four
set_option linter.unusedVariables false
set_option linter.unusedSimpArgs false

open Go.Proofs.Ytbmmlkifhhpjcaa
set_option maxHeartbeats 1000000 in
set_option maxRecDepth 1000000 in
theorem up92_calls (W : World) (g base : Nat) (row : Option Nat) (L : List S92) (came : Int) (k : Nat) (hS : HS92 W g base row L came) (hk : k < L.length) (hl : L.length < 4398046511104) :
    Calls Try.prog 39 #[.pointer (some ⟨g, 0, none⟩), .int .i64 k] W fun e w' => e = .returned (.tuple #[]) ∧ HS92 w' g base row (upF ah92 L k) came ∧ HpTo W w' g base row row := by
  have HS := Aside0.mk hS
  have HT := Aside0.mk (HpTo.refl W g base row)
  have HK := Aside0.mk hk
  have HL := Aside0.mk hl
  clear hS hk hl
  go_enter Try.func39, Try.ntmps39
  go_wp2
  go_loopw [1] (fun v1 wr => ∃ (j : Nat) (M : List S92), v1 = .int .i64 j ∧ Aside0 (j < M.length) ∧ Aside0 (M.length < 4398046511104) ∧ Aside0 (upF ah92 M j = upF ah92 L k) ∧ Aside0 (HS92 wr g base row M came) ∧ Aside0 (HpTo W wr g base row row)) (fun v1 _ => (intOf v1).toNat)
  case atStart => exact ⟨k, L, rfl, HK, HL, ⟨rfl⟩, HS, HT⟩
  case round =>
    clear HS HT HK HL
    obtain ⟨j, M, rfl, HK, HL, HU, HS, HT⟩ := hrel
    have hjl := HK.out
    have hml := HL.out
    have hnn : 0 ≤ (j : Int) := by omega
    have hjb : (j : Int) < 4398046511104 := by omega
    by_cases h0 : j = 0
    · subst h0
      rw [upF] at HU
      simp only [Nat.lt_irrefl, false_and, dite_false] at HU
      go_wp2
      refine bodyPost_end (results_none rfl _ _ _) rfl ?_
      exact ⟨rfl, HU.out ▸ HS.out, HT.out⟩
    · have hw1 : IntKind.i64.wrap ((j : Int) - 1) = (j : Int) - 1 := by rw [IntKind.wrap_i64]; omega
      obtain ⟨p, hp⟩ : ∃ p, (j - 1) / 2 = p := ⟨_, rfl⟩
      have hq : ((j : Int) - 1).tdiv 2 = (p : Int) := by rw [Int.tdiv_eq_ediv_of_nonneg (by omega)]; omega
      have hpj : p < j := by omega
      have h0b : decide ((j : Int) > 0) = true := decide_eq_true (by omega)
      have h0c : decide (0 < j) = true := decide_eq_true (by omega)
      obtain ⟨c, hc⟩ : ∃ c, ah92 (hgt M j) (hgt M p) = c := ⟨_, rfl⟩
      have hpl : p < M.length := by omega
      cases c
      · rw [upF] at HU
        have hno : ¬ (0 < j ∧ ah92 (hgt M j) (hgt M ((j - 1) / 2)) = true) := by rw [hp, hc]; simp
        rw [dif_neg hno] at HU
        have HC := Aside0.mk hc
        clear hno hc
        go_wp2_with (go_at_call 48; (with_reducible refine (ahead92_nat _ g base row M came j p _ HS.out HK.out hpl HC.out).mono ?_); rintro e w1 ⟨rfl, hb⟩; have n1_ := Aside0.mk (HS.out.below hb); have n2_ := Aside0.mk (HT.out.then_below hb HS.out.size); clear HS HT hb; have HS := n1_; have HT := n2_; clear n1_ n2_)
        refine bodyPost_end (results_none rfl _ _ _) rfl ?_
        exact ⟨rfl, HU.out ▸ HS.out, HT.out⟩
      · rw [upF] at HU
        have hyes : 0 < j ∧ ah92 (hgt M j) (hgt M ((j - 1) / 2)) = true := by rw [hp, hc]; exact ⟨by omega, rfl⟩
        rw [dif_pos hyes, hp] at HU
        have HC := Aside0.mk hc
        clear hyes hc
        go_upto_region 1 with (go_at_call 48; (with_reducible refine (ahead92_nat _ g base row M came j p _ HS.out HK.out hpl HC.out).mono ?_); rintro e w1 ⟨rfl, hb⟩; have n1_ := Aside0.mk (HS.out.below hb); have n2_ := Aside0.mk (HT.out.then_below hb HS.out.size); clear HS HT hb; have HS := n1_; have HT := n2_; clear n1_ n2_)
        obtain ⟨v, hv, hb, hR, hg⟩ := HS.out
        obtain ⟨gr, cap, rfl, hgr, hgl, _⟩ := Kd.R_form hR (by omega)
        obtain ⟨x0, x1, xf0, xf1⟩ := cells92 hR j hjl
        obtain ⟨y0, y1, yf0, yf1⟩ := cells92 hR p hpl
        have c0 : w1.cell? ⟨g, 0, none⟩ = some (.slice (some ⟨gr, 0, none⟩) M.length cap) := (blk_cell hb 0).trans rfl
        have HR := Aside0.mk hR
        have HB := Aside0.mk hb
        have HG := Aside0.mk hg
        have HV := Aside0.mk hv
        obtain ⟨SW, SG⟩ := swap92 hR j p hjl hpl
        have HSW := Aside0.mk SW
        have HSG := Aside0.mk SG
        obtain ⟨xj, hxj⟩ : ∃ x, hgt M j = x := ⟨_, rfl⟩
        obtain ⟨xp, hxp⟩ : ∃ x, hgt M p = x := ⟨_, rfl⟩
        rw [hxj] at x0 x1 HSW HSG
        rw [hxp] at y0 y1 HSW HSG
        have q1 : (j : Int) < (M.length : Int) := by omega
        have q2 : (p : Int) < (M.length : Int) := by omega
        have q3 : 0 ≤ (p : Int) := by omega
        clear hR hb hg hv SW SG hxj hxp hgr hgl
        go_region
        have n1_ : Aside0 (HS92 (exW92 w1 gr j p xp xj).drew g base row (swp M j p) came) :=
          ⟨_, HV.out, blk_drew (blk_grown HB.out HSG.out (fun e => HR.out.1 gr rfl (Option.some.inj e).symm)), Kd.R_drew HSW.out, HG.out⟩
        have n2_ : Aside0 (HpTo W (exW92 w1 gr j p xp xj).drew g base row row) :=
          ⟨(HT.out.then_grown HS.out.size (fun k hk => (HS.out.row_ k hk).1) (show w1.grownBy (exW92 w1 gr j p xp xj) row from HV.out ▸ HSG.out) (.inl rfl)).then_below (below_drew (Below.refl _ _)) (Nat.le_trans HS.out.size HSG.out.size)⟩
        clear x0 x1 y0 y1 xf0 xf1 yf0 yf1 c0 HR HB HG HV HSW HSG HS HT
        change Aside0 (HS92 _ g base row (swp M j p) came) at n1_
        generalize hW : (exW92 w1 gr j p xp xj).drew = w2 at n1_ n2_
        unfold exW92 at hW
        rw [hW]
        clear hW
        go_wp2
        go_roundw
        case measure => simp [intOf]; omega
        case rel => exact ⟨p, swp M j p, rfl, ⟨by rw [swp_len]; exact hpl⟩, ⟨by rw [swp_len]; exact hml⟩, HU, n1_, n2_⟩
def lst92 (M : List S92) (j : Nat) : Nat → Nat
  | 0 => j
  | q + 1 => if 2 * j + 1 + q < M.length ∧ ah92 (hgt M (2 * j + 1 + q)) (hgt M (lst92 M j q)) = true then 2 * j + 1 + q else lst92 M j q
theorem lst92_two (M : List S92) (j : Nat) : lst92 M j 2 = kid2 ah92 M j := rfl
theorem lst92_lt (M : List S92) (j q : Nat) (h : 2 * j + 1 + q < M.length) : lst92 M j q < M.length ∧ lst92 M j q < 2 * j + 1 + q := by
  induction q with
  | zero => unfold lst92; omega
  | succ q ih =>
    have := ih (by omega)
    unfold lst92
    split <;> omega
theorem lst92_le (M : List S92) (j q : Nat) (h : j < 1099511627776) (hq : q ≤ 2) : lst92 M j q ≤ 2 * j + 2 := by
  induction q with
  | zero => unfold lst92; omega
  | succ q ih =>
    have := ih (by omega)
    unfold lst92
    split <;> omega
set_option maxHeartbeats 1000000 in
set_option maxRecDepth 1000000 in
theorem down92_calls (W : World) (g base : Nat) (row : Option Nat) (L : List S92) (came : Int) (k : Nat) (hS : HS92 W g base row L came) (hk : k < 1099511627776) (hl : L.length < 1099511627776) :
    Calls Try.prog 37 #[.pointer (some ⟨g, 0, none⟩), .int .i64 k] W fun e w' => e = .returned (.tuple #[]) ∧ HS92 w' g base row (downF ah92 L k) came ∧ HpTo W w' g base row row := by
  have HS := Aside0.mk hS
  have HT := Aside0.mk (HpTo.refl W g base row)
  have HK := Aside0.mk hk
  have HL := Aside0.mk hl
  clear hS hk hl
  go_enter Try.func37, Try.ntmps37
  go_wp2
  go_loopw [1] (fun v1 wr => ∃ (j : Nat) (M : List S92), v1 = .int .i64 j ∧ Aside0 (j < 1099511627776) ∧ Aside0 (M.length = L.length) ∧ Aside0 (downF ah92 M j = downF ah92 L k) ∧ Aside0 (HS92 wr g base row M came) ∧ Aside0 (HpTo W wr g base row row)) (fun v1 _ => L.length - (intOf v1).toNat)
  case atStart => exact ⟨k, L, rfl, HK, ⟨rfl⟩, ⟨rfl⟩, HS, HT⟩
  case round =>
    clear HS HT HK
    obtain ⟨j, M, rfl, HK, HE, HU, HS, HT⟩ := hrel
    have hjl := HK.out
    have hml : M.length < 1099511627776 := by have := HE.out; have := HL.out; omega
    have hw0 : IntKind.i64.wrap (2 * (j : Int)) = 2 * (j : Int) := by rw [IntKind.wrap_i64]; omega
    have hw1 : IntKind.i64.wrap (2 * (j : Int) + 1) = 2 * (j : Int) + 1 := by rw [IntKind.wrap_i64]; omega
    have hw2 : IntKind.i64.wrap (2 * (j : Int) + 2) = 2 * (j : Int) + 2 := by rw [IntKind.wrap_i64]; omega
    have HN := Aside0.mk (blk_new wr (.cells #[.int .i64 (2 * (j : Int) + 1), .int .i64 (2 * (j : Int) + 2)] 3))
    have n1_ := Aside0.mk (HS.out.below (below_alloc (Below.refl _ _) (.cells #[.int .i64 (2 * (j : Int) + 1), .int .i64 (2 * (j : Int) + 2)] 3)))
    have n2_ := Aside0.mk (HT.out.then_below (below_alloc (Below.refl _ _) (.cells #[.int .i64 (2 * (j : Int) + 1), .int .i64 (2 * (j : Int) + 2)] 3)) HS.out.size)
    clear HS HT
    have HS := n1_
    have HT := n2_
    clear n1_ n2_
    go_wp2
    generalize wr.alloc (.cells #[.int .i64 (2 * (j : Int) + 1), .int .i64 (2 * (j : Int) + 2)] 3) = wa at HS HT HN ⊢
    generalize wr.heap.size = kb at HN ⊢
    clear hw0 hw1 hw2
    go_loopw [4, 16] (fun v4 v16 wi => ∃ q : Nat, q ≤ 2 ∧ v16 = .int .i64 q ∧ v4 = .int .i64 (lst92 M j q) ∧ Aside0 (wi.heap[kb]? = some (.cells #[.int .i64 (2 * (j : Int) + 1), .int .i64 (2 * (j : Int) + 2)] 3 (0, 0))) ∧ Aside0 (HS92 wi g base row M came) ∧ Aside0 (HpTo W wi g base row row)) (fun _ v16 _ => 2 - (intOf v16).toNat)
    case atStart => exact ⟨0, by omega, rfl, rfl, HN, HS, HT⟩
    case round =>
      clear HS HT HN
      obtain ⟨q, hq, rfl, rfl, HN, HS, HT⟩ := hrel
      by_cases hq2 : q = 2
      · subst hq2
        have hu := HU.out
        rw [downF] at hu
        rw [lst92_two]
        have hkc := kid2_cases ah92 M j
        obtain ⟨m, hm⟩ : ∃ m : Nat, kid2 ah92 M j = m := ⟨_, rfl⟩
        rw [hm] at hkc hu ⊢
        by_cases hmj : m = j
        · rw [dif_pos hmj] at hu
          have e1 : ((m : Int) == (j : Int)) = true := by rw [hmj]; exact beq_self_eq_true _
          have HU2 := Aside0.mk hu
          clear hu hm hkc hmj HU HN
          go_wp2
          refine bodyPost_ret (results_none rfl _ _ _) rfl ?_
          exact ⟨rfl, HU2.out ▸ HS.out, HT.out⟩
        · rw [dif_neg hmj] at hu
          have hml2 : m < M.length := by omega
          have hjm : j < m := by omega
          have hjl2 : j < M.length := by omega
          have e1 : ((m : Int) == (j : Int)) = false := by simp; omega
          have HU2 := Aside0.mk hu
          clear hu hm hkc HU HN
          go_upto_region 8 with (fail)
          obtain ⟨v, hv, hb, hR, hg⟩ := HS.out
          obtain ⟨gr, cap, rfl, hgr, hgl, _⟩ := Kd.R_form hR (by omega)
          obtain ⟨x0, x1, xf0, xf1⟩ := cells92 hR j hjl2
          obtain ⟨y0, y1, yf0, yf1⟩ := cells92 hR m hml2
          have c0 : wr.cell? ⟨g, 0, none⟩ = some (.slice (some ⟨gr, 0, none⟩) M.length cap) := (blk_cell hb 0).trans rfl
          have HR := Aside0.mk hR
          have HB := Aside0.mk hb
          have HG := Aside0.mk hg
          have HV := Aside0.mk hv
          obtain ⟨SW, SG⟩ := swap92 hR j m hjl2 hml2
          have HSW := Aside0.mk SW
          have HSG := Aside0.mk SG
          obtain ⟨xj, hxj⟩ : ∃ x, hgt M j = x := ⟨_, rfl⟩
          obtain ⟨xp, hxp⟩ : ∃ x, hgt M m = x := ⟨_, rfl⟩
          rw [hxj] at x0 x1 HSW HSG
          rw [hxp] at y0 y1 HSW HSG
          have q1 : (j : Int) < (M.length : Int) := by omega
          have q2 : (m : Int) < (M.length : Int) := by omega
          have q3 : 0 ≤ (m : Int) := by omega
          have q4 : 0 ≤ (j : Int) := by omega
          clear hR hb hg hv SW SG hxj hxp hgr hgl
          go_region
          have n1_ : Aside0 (HS92 (exW92 wr gr j m xp xj).drew g base row (swp M j m) came) :=
            ⟨_, HV.out, blk_drew (blk_grown HB.out HSG.out (fun e => HR.out.1 gr rfl (Option.some.inj e).symm)), Kd.R_drew HSW.out, HG.out⟩
          have n2_ : Aside0 (HpTo W (exW92 wr gr j m xp xj).drew g base row row) :=
            ⟨(HT.out.then_grown HS.out.size (fun k hk => (HS.out.row_ k hk).1) (show wr.grownBy (exW92 wr gr j m xp xj) row from HV.out ▸ HSG.out) (.inl rfl)).then_below (below_drew (Below.refl _ _)) (Nat.le_trans HS.out.size HSG.out.size)⟩
          clear x0 x1 y0 y1 xf0 xf1 yf0 yf1 c0 HR HB HG HV HSW HSG HS HT
          change Aside0 (HS92 _ g base row (swp M j m) came) at n1_
          generalize hW : (exW92 wr gr j m xp xj).drew = w2 at n1_ n2_
          unfold exW92 at hW
          rw [hW]
          clear hW
          go_wp2
          go_roundw
          case measure => have := HE.out; simp [intOf]; omega
          case rel => exact ⟨m, swp M j m, rfl, ⟨by omega⟩, ⟨by rw [swp_len]; exact HE.out⟩, HU2, n1_, n2_⟩
      · have hqlt : (q : Int) < 2 := by omega
        have hq0 : 0 ≤ (q : Int) := by omega
        obtain ⟨kd, hkd⟩ : ∃ kd : Nat, 2 * j + 1 + q = kd := ⟨_, rfl⟩
        obtain ⟨m, hm⟩ : ∃ m : Nat, lst92 M j q = m := ⟨_, rfl⟩
        have hmb := lst92_le M j q hjl (by omega)
        rw [hm] at hmb ⊢
        have hx : wr.cell? ⟨kb, q, none⟩ = some (.int .i64 kd) := by
          refine (blk_cell HN.out q).trans ?_
          rcases (show q = 0 ∨ q = 1 by omega) with rfl | rfl
          · show some (Value.int .i64 (2 * (j : Int) + 1)) = _
            rw [← hkd]; congr 2
          · show some (Value.int .i64 (2 * (j : Int) + 2)) = _
            rw [← hkd]; congr 2
        have hl2 : lst92 M j (q + 1) = if kd < M.length ∧ ah92 (hgt M kd) (hgt M m) = true then kd else m := by
          show (if 2 * j + 1 + q < M.length ∧ ah92 (hgt M (2 * j + 1 + q)) (hgt M (lst92 M j q)) = true then 2 * j + 1 + q else lst92 M j q) = _
          rw [hkd, hm]
        have HL2 := Aside0.mk hl2
        have hml2 : kd < M.length → m < M.length := fun h => by have := (lst92_lt M j q (by omega)).1; omega
        clear hl2 hmb hm
        obtain ⟨v0, hv0, hb0, hR0, hg0⟩ := HS.out
        obtain ⟨A0, cap0, rfl⟩ := Kd.R_slice hR0
        have hc0 : wr.cell? ⟨g, 0, none⟩ = some (.slice A0 M.length cap0) := (blk_cell hb0 0).trans rfl
        clear hv0 hb0 hR0 hg0
        by_cases hin : kd < M.length
        · obtain ⟨c, hc⟩ : ∃ c, ah92 (hgt M kd) (hgt M m) = c := ⟨_, rfl⟩
          have hmm := hml2 hin
          have i1 : decide ((kd : Int) < (M.length : Int)) = true := decide_eq_true (by omega)
          have i2 : decide (kd < M.length) = true := decide_eq_true hin
          have HC := Aside0.mk hc
          clear hml2 hkd
          cases c
          · have hl3 : lst92 M j (q + 1) = m := by rw [HL2.out, if_neg (by rw [HC.out]; simp)]
            go_wp2_with (go_at_call 48; (with_reducible refine (ahead92_nat _ g base row M came kd m _ HS.out hin hmm HC.out).mono ?_); rintro e w1 ⟨rfl, hb⟩; have n1_ := Aside0.mk (HS.out.below hb); have n2_ := Aside0.mk (HT.out.then_below hb HS.out.size); have n3_ := Aside0.mk (blk_below HN.out hb); clear HS HT HN hb hc0; have HS := n1_; have HT := n2_; have HN := n3_; clear n1_ n2_ n3_)
            go_roundw
            case measure => simp [intOf]; omega
            case rel => exact ⟨q + 1, by omega, by go_num, by rw [hl3], HN, HS, HT⟩
          · have hl3 : lst92 M j (q + 1) = kd := by rw [HL2.out, if_pos ⟨hin, HC.out⟩]
            go_wp2_with (go_at_call 48; (with_reducible refine (ahead92_nat _ g base row M came kd m _ HS.out hin hmm HC.out).mono ?_); rintro e w1 ⟨rfl, hb⟩; have n1_ := Aside0.mk (HS.out.below hb); have n2_ := Aside0.mk (HT.out.then_below hb HS.out.size); have n3_ := Aside0.mk (blk_below HN.out hb); clear HS HT HN hb hc0; have HS := n1_; have HT := n2_; have HN := n3_; clear n1_ n2_ n3_)
            go_roundw
            case measure => simp [intOf]; omega
            case rel => exact ⟨q + 1, by omega, by go_num, by rw [hl3], HN, HS, HT⟩
        · have hl3 : lst92 M j (q + 1) = m := by rw [HL2.out, if_neg (fun h => hin h.1)]
          have i1 : decide ((kd : Int) < (M.length : Int)) = false := decide_eq_false (by omega)
          have i2 : decide (kd < M.length) = false := decide_eq_false hin
          clear hml2 hkd hin
          go_wp2
          go_roundw
          case measure => simp [intOf]; omega
          case rel => exact ⟨q + 1, by omega, by go_num, by rw [hl3], HN, HS, HT⟩
end Go.Proofs.Ytbmmlkifhhpjcaa.X
