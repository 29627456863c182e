/- HeapSorts: what is drained is sorted, those alike in the order in which they came. -/
import Derived.Test.YtbmmlkifhhpjcaaE
import Derived.Test.YtbmmlkifhhpjcaaX37
import Derived.Test.YtbmmlkifhhpjcaaR
namespace Go.Proofs.Ytbmmlkifhhpjcaa.X
open Go.RowKit Go.Proofs.YtbmmlkifhhpjcaaW.PrintWords Go.Proofs.YtbmmlkifhhpjcaaW.PrintLast Go.Proofs.YtbmmlkifhhpjcaaW.PrintMore
attribute [local go_sem] max2_int min2_int max_two min_two max_three min_three max_four min_four
set_option linter.unusedVariables false
set_option linter.unusedSimpArgs false

open Go.Proofs.Ytbmmlkifhhpjcaa
def archivistlaw15_HeapSorts.f (a0 : List ByteArray) (a1 : Int) : Option Bool := if 0 ≤ a1 ∧ a1 < 256 then some true else none
instance inh48 : Inhabited S48 := ⟨z48⟩
def mkS (s : ByteArray) (c : Int) : S48 := ⟨s, c⟩
theorem litS (x : S48) (W : World) : Kd.C k48 (W.alloc (.cells #[.string x.f0, .int .i64 x.f1] 48)) (some ⟨W.heap.size, 0, none⟩) 1 [x] := by
  refine ⟨rfl, by decide, fun _ => ⟨_, rfl, fun j p hj => ?_⟩⟩
  have hj0 : j = 0 := by
    have := (List.getElem?_eq_some_iff.1 hj).1
    simpa using this
  subst hj0
  obtain rfl : x = p := by simpa using hj
  refine ⟨_, rfl, k48_mk _ x, fun i u hu => ?_⟩
  have hb := blk_new W (.cells #[.string x.f0, .int .i64 x.f1] 48)
  rw [add_plain, blk_cell hb]
  rcases i with _ | _ | i
  · simpa using hu
  · simpa using hu
  · simp at hu
/-- two heaps, and the row of all texts -/
structure Three (W0 W : World) (gh gg : Nat) (rh rg : Option Nat) (M N : List S96) (ch cg : Int) (v : Value) (ls : List S48) : Prop where
  hs : HS96 W gh gh rh M ch
  gs : HS96 W gg gg rg N cg
  lt : gh < gg
  n1 : rh ≠ some gg
  n2 : ∀ k, rh = some k → rg ≠ some k
  al : Kd.R k48 48 W W0.heap.size (fun k => k < gh) v ls
  be : Below W0.heap.size W0 W
  l0 : W0.heap.size ≤ gh
section
variable {W0 W W1 : World} {gh gg : Nat} {rh rg r1 : Option Nat} {M N M1 N1 : List S96} {ch cg c1 : Int} {v : Value} {ls : List S48}
theorem Three.heap (d : Three W0 W gh gg rh rg M N ch cg v ls) (hs : HS96 W1 gh gh r1 M1 c1) (ht : HpTo W W1 gh gh rh r1) : Three W0 W1 gh gg r1 rg M1 N c1 cg v ls := by
  have hl := d.lt
  have hgl := d.gs.lt
  refine ⟨hs, d.gs.keep (kd := k96) rfl ht.keep (by omega) (fun e => d.n1 e.symm) (fun b hb => ⟨by have := (d.gs.row_ b hb).1; omega, fun e => d.n2 b e.symm hb⟩), hl, ?_, ?_, rowR_keep (kd := k48) rfl d.al ht.keep (fun b hb => ?_), d.be.trans (ht.below.mono d.l0), d.l0⟩
  · rcases ht.grow with e | ⟨b, e, hb⟩
    · rw [e]; exact d.n1
    · rw [e]
      intro e2
      injection e2 with e2
      omega
  · intro k hk hk2
    rcases ht.grow with e | ⟨b, e, hb⟩
    · exact d.n2 k (e ▸ hk) hk2
    · rw [e] at hk
      injection hk with hk
      have := (d.gs.row_ k hk2).2.1
      omega
  · have := d.al.1 b hb
    exact ⟨by omega, fun e => by have := (d.hs.row_ b e.symm).1; omega⟩
theorem Three.other (d : Three W0 W gh gg rh rg M N ch cg v ls) (gs : HS96 W1 gg gg r1 N1 c1) (ht : HpTo W W1 gg gg rg r1) : Three W0 W1 gh gg rh r1 M N1 ch c1 v ls := by
  have hl := d.lt
  have hgl := d.gs.lt
  refine ⟨d.hs.keep (kd := k96) rfl ht.keep (by omega) (fun e => by have := (d.gs.row_ gh e.symm).1; omega) (fun b hb => ⟨fun e => d.n1 (by rw [hb, e]), fun e => d.n2 b hb e.symm⟩), gs, hl, d.n1, ?_, rowR_keep (kd := k48) rfl d.al ht.keep (fun b hb => ?_), d.be.trans (ht.below.mono (by have := d.l0; omega)), d.l0⟩
  · intro k hk hk2
    rcases ht.grow with e | ⟨b, e, hb⟩
    · exact d.n2 k hk (e ▸ hk2)
    · rw [e] at hk2
      injection hk2 with hk2
      have := (d.hs.row_ k hk).2.1
      omega
  · have := d.al.1 b hb
    exact ⟨by omega, fun e => by have := (d.gs.row_ b e.symm).1; omega⟩
theorem Three.below (d : Three W0 W gh gg rh rg M N ch cg v ls) (hb : Below W.heap.size W W1) : Three W0 W1 gh gg rh rg M N ch cg v ls :=
  ⟨d.hs.below hb, d.gs.below hb, d.lt, d.n1, d.n2, Kd.R_below d.al hb, d.be.trans (hb.mono (by have := d.hs.size; have := d.l0; omega)), d.l0⟩
theorem Three.aside (d : Three W0 W gh gg rh rg M N ch cg v ls) {gb : Nat} (h1 : gh ≠ gb) (h2 : gg ≠ gb) (h3 : rh ≠ some gb) (h4 : rg ≠ some gb) (h5 : gh ≤ gb) (j : Nat) (u : Value) : Three W0 (W.setCell ⟨gb, j, none⟩ u) gh gg rh rg M N ch cg v ls :=
  ⟨d.hs.aside h1 (fun b hb e => h3 (by rw [hb, e])) j u, d.gs.aside h2 (fun b hb e => h4 (by rw [hb, e])) j u, d.lt, d.n1, d.n2, Kd.R_far (p := ⟨gb, j, none⟩) d.al (fun k hk => by show k ≠ gb; have : k < gh := hk; omega) u, d.be.setCell (p := ⟨gb, j, none⟩) (Nat.le_trans d.l0 h5) u, d.l0⟩
end
section
variable {W0 W : World} {gh gg : Nat} {rh rg : Option Nat} {M N : List S96} {ch cg : Int} {v : Value} {ls : List S48}
theorem Three.push (d : Three W0 W gh gg rh rg M N ch cg v ls) (A : Option Addr) (c : Nat) (ys : List S48) (hC : Kd.C k48 W A ys.length ys) (hA : ∀ ad, A = some ad → 0 < ys.length → ad.block < gh) (hc0 : 0 ≤ ch) (hc1 : ch + ys.length < 1099511627776) (hl : M.length + ys.length < 1099511627776) (hp : Hp ah96 M) :
    Calls Try.prog 20 #[.pointer (some ⟨gh, 0, none⟩), .slice A ys.length c] W fun e w' => e = .returned (.tuple #[]) ∧ ∃ r', Three W0 w' gh gg r' rg (pushL ah96 mk96 M ch ys) N (ch + ys.length) cg v ls :=
  (push96_calls W gh gh rh M ch A c ys d.hs (C_keepB (fun h => h) hC (fun ad e h => ⟨Nat.ne_of_lt (hA ad e h), fun e2 => by have := (d.hs.row_ _ e2.symm).1; have := hA ad e h; omega⟩)) hc0 hc1 hl hp).mono fun e w' hh => ⟨hh.1, by
    obtain ⟨_, r', h1, h2⟩ := hh
    exact ⟨r', d.heap h1 h2⟩⟩
theorem Three.push1 (d : Three W0 W gh gg rh rg M N ch cg v ls) (x : S48) (hc0 : 0 ≤ cg) (hc1 : cg + 1 < 1099511627776) (hl : N.length + 1 < 1099511627776) (hp : Hp ah96 N) :
    Calls Try.prog 20 #[.pointer (some ⟨gg, 0, none⟩), .slice (some ⟨W.heap.size, 0, none⟩) 1 1] (W.alloc (.cells #[.string x.f0, .int .i64 x.f1] 48)) fun e w' => e = .returned (.tuple #[]) ∧ ∃ r', Three W0 w' gh gg rh r' M (pushF ah96 N (mk96 x cg)) ch (cg + 1) v ls := by
  have d2 := d.below (below_alloc (Below.refl W.heap.size W) (.cells #[.string x.f0, .int .i64 x.f1] 48))
  refine (push96_calls _ gg gg rg N cg (some ⟨W.heap.size, 0, none⟩) 1 [x] d2.gs (C_keepB (fun h => h) (litS x W) (fun ad e h => ?_)) hc0 hc1 hl hp).mono fun e w' hh => ⟨hh.1, ?_⟩
  · cases e
    exact ⟨by have := d.gs.lt; show W.heap.size ≠ gg; omega, fun e => by have := (d.gs.row_ _ e.symm).2.1; simp at this⟩
  · obtain ⟨_, r', h1, h2⟩ := hh
    exact ⟨r', d2.other h1 h2⟩
theorem Three.drain (d : Three W0 W gh gg rh rg M N ch cg v ls) (hp : Hp ah96 M) (hl : M.length < 1099511627776) {D : List S96} (hD : drainF ah96 M.length M = D) {n : Nat} (hn : D.length = n) :
    Calls Try.prog 21 #[.pointer (some ⟨gh, 0, none⟩)] W fun e w' => ∃ A c, e = .returned (.slice A n c) ∧ Kd.R k48 48 w' W.heap.size (fun k => W.heap.size ≤ k) (.slice A n c) (D.map (·.f0)) ∧ Three W0 w' gh gg rh rg [] N ch cg v ls :=
  (drain96_calls W gh gh rh M ch d.hs hp hl).mono fun e w' hh => by
    obtain ⟨v1, h1, h2, h3, h4⟩ := hh
    rw [hD] at h2
    obtain ⟨A, c, rfl⟩ := Kd.R_slice h2
    rw [List.length_map, hn] at h1 h2
    exact ⟨A, c, h1, Kd.R_reok rfl h2 (fun k hk => Kd.R_base h2 k hk), d.heap h3 h4⟩
theorem Three.pop (d : Three W0 W gh gg rh rg M N ch cg v ls) (hl : 0 < N.length) (hm : N.length < 1099511627776) {y : S96} (hy : hgt N 0 = y) {B : Nat} (hB : gg < B ∧ ∀ k, rg = some k → k < B) {vo : Value} {os : List S48} (ho : Kd.R k48 48 W B (fun k => B ≤ k) vo os) :
    Calls Try.prog 23 #[.pointer (some ⟨gg, 0, none⟩)] W fun e w' => e = .returned (.tuple #[.agg #[.string y.f0.f0, .int .i64 y.f0.f1], .bool true]) ∧ Three W0 w' gh gg rh rg M (popF ah96 N) ch cg v ls ∧ Kd.R k48 48 w' B (fun k => B ≤ k) vo os :=
  (pop96_some W gg gg rg N cg d.gs hl hm).mono fun e w' hh => by
    obtain ⟨h1, h2, h3⟩ := hh
    rw [hy] at h1
    exact ⟨h1, d.other h2 h3, rowR_keep (kd := k48) rfl ho h3.keep (fun b hb => by
      have h5 : B ≤ b := ho.1 b hb
      exact ⟨by have := hB.1; omega, fun e => by have := hB.2 b e.symm; omega⟩)⟩
end
theorem stampQ_get (ls : List S48) (c : Int) (y : S96) (h : y ∈ stamp mk96 c ls) : ∃ (j : Nat) (hj : j < ls.length), y = mk96 ls[j] (c + j) := by
  obtain ⟨j, hj, rfl⟩ := List.getElem_of_mem h
  rw [stamp_len] at hj
  exact ⟨j, hj, stamp_get mk96 ls c j hj⟩
theorem sorts_round {xs : List ByteArray} {D : List S96} (hP : D.Perm (stamp mk96 0 (stamp mkS 0 xs))) (hS : D.Pairwise (fun a b => ah96 b a = false)) (i : Nat) (hi : i < D.length) :
    ∃ j : Nat, j < xs.length ∧ (hgt D i).f0.f1 = j ∧ rd_T48 (stamp mkS 0 xs) j = (hgt D i).f0 ∧ ∀ m : Nat, i = m + 1 → ¬ ((hgt D m).f0.f0.size : Int) > ((hgt D i).f0.f0.size : Int) ∧ (((hgt D m).f0.f0.size : Int) = ((hgt D i).f0.f0.size : Int) → ¬ (hgt D m).f0.f1 ≥ (hgt D i).f0.f1) := by
  have hr := stamp_rise mk96 (fun y : S96 => y.f1) (fun _ _ => rfl) (stamp mkS 0 xs) 0
  have hne : D.Pairwise (fun a b => a.f1 ≠ b.f1) := (hP.pairwise_iff (fun h => Ne.symm h)).2 (hr.1.imp (fun h => Int.ne_of_lt h))
  have hat : ∀ t, t < D.length → ∃ j : Nat, j < xs.length ∧ (hgt D t).f0.f1 = j ∧ (hgt D t).f1 = j ∧ rd_T48 (stamp mkS 0 xs) j = (hgt D t).f0 := fun t ht => by
    obtain ⟨j, hj, e⟩ := stampQ_get _ _ _ (hP.mem_iff.1 (hgt_mem D t ht))
    have hj2 : j < xs.length := by rwa [stamp_len] at hj
    have h1 := stamp_get mkS xs 0 j hj2
    refine ⟨j, hj2, ?_, ?_, ?_⟩
    · rw [e]
      show ((stamp mkS 0 xs)[j]).f1 = _
      rw [h1]
      show (0 : Int) + j = j
      omega
    · rw [e]
      show (0 : Int) + j = j
      omega
    · rw [e]
      show (stamp mkS 0 xs).getD (j : Int).toNat z48 = (stamp mkS 0 xs)[j]
      rw [Int.toNat_natCast, List.getD_eq_getElem?_getD, List.getElem?_eq_getElem hj]
      rfl
  obtain ⟨j, hj, h1, h2, h3⟩ := hat i hi
  refine ⟨j, hj, h1, h3, fun m hm => ?_⟩
  subst hm
  obtain ⟨j2, hj2, g1, g2, g3⟩ := hat m (by omega)
  have hs := List.pairwise_iff_getElem.1 hS m (m + 1) (by omega) hi (by omega)
  have hn := List.pairwise_iff_getElem.1 hne m (m + 1) (by omega) hi (by omega)
  rw [← hgt_eq D m (by omega), ← hgt_eq D (m + 1) hi] at hs hn
  rw [ah96_key, ahK_no] at hs
  have hs2 : ((hgt D m).f0.f0.size : Int) < ((hgt D (m + 1)).f0.f0.size : Int) ∨ (((hgt D m).f0.f0.size : Int) = ((hgt D (m + 1)).f0.f0.size : Int) ∧ (hgt D m).f1 ≤ (hgt D (m + 1)).f1) := hs
  have hn2 : (hgt D m).f1 ≠ (hgt D (m + 1)).f1 := hn
  omega
theorem stampS_snoc (xs : List ByteArray) (i : Nat) (hi : i < xs.length) (s : ByteArray) (hs : xs.getD i ByteArray.empty = s) : stamp mkS 0 (xs.take (i + 1)) = stamp mkS 0 (xs.take i) ++ [mkS s i] := by
  rw [List.take_succ_eq_append_getElem hi, stamp_append, show xs[i] = s by rw [← hs, List.getD_eq_getElem?_getD, List.getElem?_eq_getElem hi]; rfl]
  congr 1
  show [mkS s (0 + ((xs.take i).length : Int))] = _
  rw [List.length_take, show ((min i xs.length : Nat) : Int) = i by omega, Int.zero_add]
theorem newS_calls (W : World) : Calls Try.prog 18 #[.func (.func 19) #[] #[], .slice none 0 0] W fun e w' => e = .returned (.pointer (some ⟨W.heap.size, 0, none⟩)) ∧ ∃ row', HS96 w' W.heap.size W.heap.size row' [] 0 ∧ Below W.heap.size W w' :=
  new96_calls W none 0 [] (Kd.C_nil _ _) (by decide)
set_option maxHeartbeats 4000000 in
set_option maxRecDepth 1000000 in
theorem archivistlaw15_HeapSorts.calls (A0 : Option Addr) (c0 : Nat) (l0 : List ByteArray) (a1 : Int) (r : Bool) (w : World) (hr0 : Kd.C Kd.string w A0 l0.length l0) (hc0 : l0.length ≤ c0) (h : archivistlaw15_HeapSorts.f l0 a1 = some r) :
    Calls Try.prog 4 #[.slice A0 l0.length c0, .int .u8 a1] w fun e w' => e = .returned (.bool r) ∧ Below w.heap.size w w' := by
  obtain ⟨ha0, ha1, rfl⟩ : 0 ≤ a1 ∧ a1 < 256 ∧ true = r := by
    unfold archivistlaw15_HeapSorts.f at h
    split at h
    · rename_i hh
      exact ⟨hh.1, hh.2, Option.some.inj h⟩
    · cases h
  obtain ⟨xs, hxs⟩ : ∃ xs, l0.take 40 = xs := ⟨_, rfl⟩
  have hlx : xs.length ≤ l0.length ∧ xs.length ≤ 40 ∧ (xs.length < 40 → xs.length = l0.length) := by rw [← hxs, List.length_take]; omega
  have hgx : ∀ i, i < xs.length → xs.getD i ByteArray.empty = l0.getD i ByteArray.empty := fun i hi => by
    rw [← hxs, List.getD_eq_getElem?_getD, List.getD_eq_getElem?_getD, List.getElem?_take, if_pos (by omega)]
  have HC := Aside0.mk hr0
  have HB := Aside0.mk (Below.refl w.heap.size w)
  have HN := Aside0.mk hlx
  have HX := Aside0.mk hgx
  have HA := Aside0.mk (And.intro ha0 ha1)
  clear h hr0 hxs hlx hgx ha0 ha1 hc0
  go_enter Try.func4, Try.ntmps4
  go_upto_region 4 with (go_at_call 7; (with_reducible refine (examples_calls _).mono ?_); rintro e w1 ⟨rfl, hb⟩; have n1_ := Aside0.mk (below_step HB.out hb); clear HB hb; have HB := n1_; clear n1_)
  go_wp2
  go_loopw [6, 7] (fun v6 v7 wr => ∃ i : Nat, v7 = .int .i64 i ∧ i ≤ xs.length ∧ Aside0 (i = 0 → v6 = .slice none 0 0) ∧ Aside0 (Below w.heap.size w wr) ∧ Aside0 (Kd.R k48 48 wr w.heap.size (fun _ => True) v6 (stamp mkS 0 (xs.take i)))) (fun _ v7 _ => xs.length - (intOf v7).toNat)
  case atStart => exact ⟨0, rfl, by omega, ⟨fun _ => rfl⟩, HB, ⟨Kd.R_nil _ _ _ _ _⟩⟩
  case round =>
    clear HB
    obtain ⟨i, rfl, hile, HZ, HB, HO⟩ := hrel
    by_cases hi : i < xs.length
    · have hb1 : (i : Int) < (l0.length : Int) := by have := HN.out; omega
      have b1 : decide ((i : Int) < (l0.length : Int)) = true := decide_eq_true hb1
      have b2 : decide ((i : Int) < 40) = true := decide_eq_true (by have := HN.out; omega)
      have b3 : 0 ≤ (i : Int) := by omega
      have hw3 : IntKind.i64.wrap ((i : Int) + 1) = (i : Int) + 1 := by have := HN.out; rw [IntKind.wrap_i64]; omega
      obtain ⟨ad, e1, hx⟩ := Kd.at_string (Kd.C_below HC.out HB.out) (i : Int) b3 hb1
      subst e1
      obtain ⟨s, hs⟩ : ∃ s, xs.getD i ByteArray.empty = s := ⟨_, rfl⟩
      have hx3 : wr.cell? (ad.add i) = some (.string s) := by
        rw [Int.toNat_natCast] at hx
        exact hx.trans (by rw [show rdOf ByteArray.empty l0 (i : Int) = l0.getD i ByteArray.empty from rfl, ← HX.out i hi, hs])
      have hsn := stampS_snoc xs i hi s hs
      have hl := stamp_len mkS (xs.take i) 0
      rw [List.length_take] at hl
      obtain ⟨Ao, co, rfl⟩ := Kd.R_slice HO.out
      generalize stamp mkS 0 (xs.take i) = ls at HO hl hsn ⊢
      have HSN := Aside0.mk hsn
      have HL := Aside0.mk (show ls.length = i by omega)
      have HLM := Aside0.mk (show (ls.length + 1) * 24 ≤ 140737488355328 by have := HN.out; omega)
      clear hx hsn hl hs HZ hile
      go_wp2_with ((with_reducible refine gate_builtin (b := .append) (xs := #[.tmp 29, .tmp 36]) rfl ?_); at_builtin; refine Kd.R_append k48 (w0 := w) w.heap.size rfl (.tmp 29) (.tmp 36) 46 48 (.agg #[.string ⟨#[]⟩, .int .i64 0]) 24 rfl Try.underlying46 infoE96 rfl (by decide) (by omega) (.slice Ao ls.length co) ls (mkS s i) [.string s, .int .i64 i] (fun _ => True) (fun _ => False) rfl rfl (k48_mkM _ _ _ (mkS s i)) (fun _ hk => hk.elim) (fun k hk => trivial) HO.out HB.out HB.out.size HLM.out ?_; intro v1 w4 ho hb hg hat; obtain ⟨A1, c1, rfl⟩ := Kd.R_slice ho; have HO1 := Aside0.mk ho; have HB1 := Aside0.mk hb; clear ho hb hg hat)
      go_roundw
      case measure => simp [intOf]; omega
      case rel => exact ⟨i + 1, by go_num, by omega, ⟨fun e => absurd e (by omega)⟩, HB1, ⟨by rw [HSN.out]; have := HO1.out; rwa [List.length_append, List.length_singleton] at this⟩⟩
    · have hie : i = xs.length := by omega
      subst hie
      have hw40 : Aside0 (xs.length < l0.length → xs.length = 40) := ⟨fun h => by have := HN.out; omega⟩
      rw [List.take_length] at HO
      clear hi hile
      go_upto_region 6 with (fail)
      go_cut [22, 23, 24, 25, 26] (fun v22 v23 v24 v25 v26 wc => v26 = .bool false ∧ wc = wr)
      case first =>
        by_cases h1 : xs.length < l0.length
        · have b1 : decide ((xs.length : Int) < (l0.length : Int)) = true := decide_eq_true (by omega)
          have b2 : decide ((xs.length : Int) < 40) = false := decide_eq_false (by have := hw40.out h1; omega)
          go_wp2
          go_meet
          case rel => exact ⟨rfl, rfl⟩
        · have b1 : decide ((xs.length : Int) < (l0.length : Int)) = false := decide_eq_false (by omega)
          go_wp2
          go_meet
          case rel => exact ⟨rfl, rfl⟩
      case rest =>
        obtain ⟨rfl, rfl⟩ := hcut
        clear hw40
        obtain ⟨Ao, co, rfl⟩ := Kd.R_slice HO.out
        have hll := stamp_len mkS xs 0
        obtain ⟨ls, hls⟩ : ∃ ls, stamp mkS 0 xs = ls := ⟨_, rfl⟩
        rw [hls] at HO HZ hll ⊢
        have HLS := Aside0.mk hls
        have HLN := Aside0.mk (show ls.length = xs.length ∧ ls.length ≤ 40 from ⟨hll, by have := HN.out; omega⟩)
        have hcap := (Kd.R_reads' HO.out).2.1
        have hCA := (Kd.R_reads' HO.out).2.2
        obtain ⟨k, hk⟩ : ∃ k, a1.toNat % (ls.length + 1) = k := ⟨_, rfl⟩
        have hkl : k ≤ ls.length := by have := Nat.mod_lt a1.toNat (show 0 < ls.length + 1 by omega); omega
        have hrem : a1.tmod ((ls.length : Int) + 1) = (k : Int) := by
          have := HA.out
          rw [Int.tmod_eq_emod_of_nonneg (by omega), ← hk, Int.natCast_emod, Int.toNat_of_nonneg (by omega)]
          rfl
        have hwa : wrap64 a1 = a1 := by have := HA.out; unfold wrap64; omega
        have hwl : IntKind.i64.wrap ((ls.length : Int) + 1) = (ls.length : Int) + 1 := by have := HLN.out; rw [IntKind.wrap_i64]; omega
        have b4 : ((ls.length : Int) + 1 == 0) = false := beq_eq_false_iff_ne.mpr (by omega)
        have b5 : 0 ≤ (k : Int) := by omega
        have b6 : (k : Int) ≤ (co : Int) := by omega
        have hlt : (ls.take k).length = k := by rw [List.length_take]; omega
        have hCT := Kd.C_take hCA (m := k) hkl
        have hnew := new96_calls wc Ao co (ls.take k) (by rw [hlt]; rwa [hlt] at hCT) (by rw [hlt]; have := HLN.out; omega)
        have hsp := pushL_spec mk96 hord96 (ls.take k) [] [] 0 Hp.nil (List.Perm.refl _)
        obtain ⟨M0, hM0⟩ : ∃ M0, pushL ah96 mk96 [] 0 (ls.take k) = M0 := ⟨_, rfl⟩
        rw [hM0, List.nil_append] at hsp
        rw [hM0, hlt] at hnew
        have HNEW := Aside0.mk hnew
        have HSP := Aside0.mk hsp
        have HK := Aside0.mk (And.intro hkl hcap)
        have HLT := Aside0.mk hlt
        have HWR := Aside0.mk (And.intro HB.out.size (fun k hk => Kd.R_lt HO.out k hk))
        clear hls hll hcap hCA hk hkl hlt hCT hnew hsp hM0
        go_upto_region 14 with (first
          | (go_at_call 18; (with_reducible refine HNEW.out.mono ?_); rintro e w2 ⟨rfl, r2, hS2, hB2⟩; have HS2 := Aside0.mk hS2; have HB2 := Aside0.mk hB2; clear hS2 hB2 HNEW)
          | (go_at_call 18; (with_reducible refine (newS_calls _).mono ?_); rintro e w3 ⟨rfl, r3, hS3, hB3⟩; have HS3 := Aside0.mk hS3; have HB3 := Aside0.mk hB3; clear hS3 hB3))
        have HD : Aside0 (Three w w3 wc.heap.size w2.heap.size r2 r3 M0 [] k 0 (.slice Ao ls.length co) ls) := ⟨by
          have h2 := HS2.out
          have h3 := HS3.out
          have hk2 := HWR.out
          have hl := h2.lt.1
          refine ⟨h2.below HB3.out, h3, hl, fun e => ?_, fun t ht ht2 => ?_, Kd.R_below (Kd.R_below (Kd.R_reok rfl HO.out hk2.2) HB2.out) (HB3.out), HB.out.trans ((HB2.out.mono hk2.1).trans (HB3.out.mono (by omega))), hk2.1⟩
          · have := (h2.row_ _ e).2.1
            omega
          · have := (h2.row_ _ ht).2.1
            have := (h3.row_ _ ht2).1
            omega⟩
        clear HS2 HB2 HS3 HB3 HWR HO HB
        generalize wc.heap.size = gh at HD ⊢
        generalize w2.heap.size = gg at HD ⊢
        go_cut [55, 56, 57, 58, 59] (fun v55 v56 v57 v58 v59 wd => ∃ (r2 : Option Nat) (M : List S96), Aside0 (Hp ah96 M ∧ M.Perm (stamp mk96 0 ls)) ∧ Aside0 (Three w wd gh gg r2 r3 M [] ls.length 0 (.slice Ao ls.length co) ls))
        case first =>
          have hpm : ∀ r4 wd, Three w wd gh gg r4 r3 (pushL ah96 mk96 M0 k (ls.drop k)) [] (k + (ls.drop k).length) 0 (.slice Ao ls.length co) ls → Aside0 (Hp ah96 (pushL ah96 mk96 M0 k (ls.drop k)) ∧ (pushL ah96 mk96 M0 k (ls.drop k)).Perm (stamp mk96 0 ls)) ∧ Aside0 (Three w wd gh gg r4 r3 (pushL ah96 mk96 M0 k (ls.drop k)) [] ls.length 0 (.slice Ao ls.length co) ls) := fun r4 wd hd => by
            have h1 := pushL_spec mk96 hord96 (ls.drop k) M0 _ k HSP.out.1 HSP.out.2
            have h2 := stamp_append mk96 (ls.take k) (ls.drop k) 0
            rw [List.take_append_drop, HLT.out, Int.zero_add] at h2
            rw [← h2] at h1
            refine ⟨⟨h1⟩, ⟨?_⟩⟩
            rwa [List.length_drop, show (k : Int) + ((ls.length - k : Nat) : Int) = ls.length by have := HK.out.1; omega] at hd
          have HPM := Aside0.mk hpm
          have hM0 : M0.length = k := by rw [HSP.out.2.length_eq, stamp_len, HLT.out]
          have hpu := fun A c hC hA => HD.out.push A c (ls.drop k) hC hA (by omega) (by rw [List.length_drop]; have := HLN.out; have := HK.out; omega) (by rw [List.length_drop]; have := HLN.out; have := HK.out; omega) HSP.out.1
          have HPU := Aside0.mk hpu
          have HLD := Aside0.mk (show (ls.drop k).length = ls.length - k from List.length_drop)
          clear hpm hM0 hpu
          by_cases h0 : ls.length = 0
          · have hls0 : ls = [] := List.eq_nil_of_length_eq_zero h0
            subst hls0
            have hk0 : k = 0 := by have := HK.out.1; simpa using this
            subst hk0
            have hz := HZ.out (by have := HLN.out.1; simpa using this.symm)
            injection hz with hz1 hz2 hz3
            subst hz1
            subst hz3
            have hpv := HPU.out none 0 (Kd.C_nil _ _) (by simp)
            rw [show (List.drop 0 ([] : List S48)).length = 0 from rfl] at hpv
            have HPV := Aside0.mk hpv
            clear hpv
            clear h0 hz2 HPU
            go_wp2_with (go_at_call 20; (with_reducible refine HPV.out.mono ?_); rintro e w4 ⟨rfl, r4, hd4⟩; have HD4 := Aside0.mk (HPM.out r4 w4 hd4); clear hd4)
            go_meet
            case rel => exact ⟨r4, _, HD4.out.1, HD4.out.2⟩
          · obtain ⟨gr, cap, hform, hgr, hgl, _⟩ := Kd.R_form HD.out.al (by omega)
            injection hform with hz1 hz2 hz3
            subst hz1
            have hgb : gr < gh := HD.out.al.1 gr rfl
            have hcd := Kd.C_drop (c := co) (Kd.R_reads' HD.out.al).2.2 HK.out.1 HK.out.2
            obtain ⟨A', hA'⟩ : ∃ A', (if co = k then some (⟨gr, 0, none⟩ : Addr) else some ⟨gr, k * 2, none⟩) = A' := ⟨_, rfl⟩
            have hA2 : (if co = k then some (⟨gr, 0, none⟩ : Addr) else (some (⟨gr, 0, none⟩ : Addr)).map (·.add (k * k48.sz))) = A' := by rw [← hA', show k48.sz = 2 from rfl, Option.map_some, add_plain]
            rw [hA2] at hcd
            have HPV := HPU.out A' (co - k) hcd (fun ad e _ => by
              rw [← hA'] at e
              split at e
              · injection e with e; rw [← e]; exact hgb
              · injection e with e; rw [← e]; exact hgb)
            rw [HLD.out] at HPV
            have HPV := Aside0.mk HPV
            have b7 : (k : Int) ≤ (ls.length : Int) := by have := HK.out.1; omega
            have b8 : (ls.length : Int) ≤ (co : Int) := by have := HK.out.2; omega
            clear h0 hz2 hz3 HPU hcd hA2
            go_wp2_with (go_at_call 20; (with_reducible refine HPV.out.mono ?_); rintro e w4 ⟨rfl, r4, hd4⟩; have HD4 := Aside0.mk (HPM.out r4 w4 (by rwa [HLD.out])); clear hd4)
            go_meet
            case rel => exact ⟨r4, _, HD4.out.1, HD4.out.2⟩
        case rest =>
          clear HD HZ HSP HK
          obtain ⟨r4, M, HM, HD⟩ := hcut
          go_wp2
          go_loopw [11] (fun v11 wr => ∃ (i : Nat) (N : List S96) (r5 : Option Nat), v11 = .int .i64 i ∧ i ≤ ls.length ∧ Aside0 (Hp ah96 N ∧ N.Perm (stamp mk96 0 (ls.take i))) ∧ Aside0 (Three w wr gh gg r4 r5 M N ls.length i (.slice Ao ls.length co) ls)) (fun v11 _ => ls.length - (intOf v11).toNat)
          case atStart => exact ⟨0, [], r3, rfl, by omega, ⟨Hp.nil, List.Perm.refl _⟩, HD⟩
          case round =>
            clear HD
            obtain ⟨i, N, r5, rfl, hile, HI, HD⟩ := hrel
            by_cases hi : i < ls.length
            · have b1 : decide ((i : Int) < (ls.length : Int)) = true := decide_eq_true (by omega)
              have b2 : (i : Int) < (ls.length : Int) := by omega
              have b3 : 0 ≤ (i : Int) := by omega
              have hw3 : IntKind.i64.wrap ((i : Int) + 1) = (i : Int) + 1 := by have := HLN.out; rw [IntKind.wrap_i64]; omega
              obtain ⟨ad, e1, x0, x1⟩ := at_T48 (Kd.R_reads' HD.out.al).2.2 (i : Int) b3 b2
              subst e1
              rw [Int.toNat_natCast] at x0 x1
              obtain ⟨x, hx⟩ : ∃ x, rd_T48 ls (i : Int) = x := ⟨_, rfl⟩
              rw [hx] at x0 x1
              have hsn : stamp mk96 0 (ls.take (i + 1)) = stamp mk96 0 (ls.take i) ++ [mk96 x i] := by
                rw [List.take_succ_eq_append_getElem hi, stamp_append, show ls[i] = x by rw [← hx]; show ls[i] = ls.getD (i : Int).toNat z48; rw [Int.toNat_natCast, List.getD_eq_getElem?_getD, List.getElem?_eq_getElem hi]; rfl]
                congr 1
                show [mk96 x (0 + ((ls.take i).length : Int))] = _
                rw [List.length_take, show ((min i ls.length : Nat) : Int) = i by omega, Int.zero_add]
              have HSN := Aside0.mk hsn
              have hnl : N.length = i := by rw [HI.out.2.length_eq, stamp_len, List.length_take]; omega
              have HPU := Aside0.mk (HD.out.push1 x (by omega) (by have := HLN.out; omega) (by have := HLN.out; omega) HI.out.1)
              have HI2 := Aside0.mk (pushF_spec hord96 N (mk96 x i) HI.out.1)
              clear hx hsn hnl hile
              go_wp2_with (go_at_call 20; (with_reducible refine HPU.out.mono ?_); rintro e w5 ⟨rfl, r6, hd5⟩; have HD5 := Aside0.mk hd5; clear hd5)
              go_roundw
              case measure => simp [intOf]; omega
              case rel => exact ⟨i + 1, _, r6, by go_num, by omega, ⟨HI2.out.1, by rw [HSN.out]; exact HI2.out.2.trans (List.Perm.append_right _ HI.out.2)⟩, ⟨by have := HD5.out; rwa [show ((i + 1 : Nat) : Int) = (i : Int) + 1 by omega]⟩⟩
            · have hie : i = ls.length := by omega
              subst hie
              have b1 : decide ((ls.length : Int) < (ls.length : Int)) = false := decide_eq_false (by omega)
              rw [List.take_length] at HI
              have hds := drainF_spec hord96 M.length M HM.out.1 rfl
              obtain ⟨D, hD⟩ : ∃ D, drainF ah96 M.length M = D := ⟨_, rfl⟩
              rw [hD] at hds
              have hMl : M.length = ls.length := by rw [HM.out.2.length_eq, stamp_len]
              have hDl : D.length = ls.length := by omega
              have hNl : N.length = ls.length := by rw [HI.out.2.length_eq, stamp_len]
              have HDR := Aside0.mk (HD.out.drain HM.out.1 (by have := HLN.out; omega) hD hDl)
              have HDS := Aside0.mk (And.intro (hds.2.1.trans HM.out.2) hds.2.2)
              have HLL := Aside0.mk (And.intro hDl hNl)
              have HSZ := Aside0.mk (show gg < wr.heap.size ∧ (∀ k, r5 = some k → k < wr.heap.size) ∧ gh < gg from ⟨HD.out.gs.lt.1, fun k hk => (HD.out.gs.row_ k hk).2.1, HD.out.lt⟩)
              have b9 : ((ls.length : Int) != (ls.length : Int)) = false := by simp
              have hNl2 : (N.length : Int) = (ls.length : Int) := by omega
              clear hi hile hds hD hMl hDl hNl HM
              generalize wr.heap.size = B at HDR HSZ
              go_upto_region 22 with (first
                | (go_at_call 21; (with_reducible refine HDR.out.mono ?_); rintro e w6 ⟨Ad, cd, rfl, ho, hd6⟩; clear HD; have HD := Aside0.mk hd6; have HO := Aside0.mk ho; clear hd6 ho)
                | (go_at_call 22; (with_reducible refine (len96_calls _ gh gh _ [] _ HD.out.hs).mono ?_); rintro e w7 ⟨rfl, rfl⟩)
                | (go_at_call 22; (with_reducible refine (len96_calls _ gg gg _ N _ HD.out.gs).mono ?_); rintro e w8 ⟨rfl, rfl⟩))
              go_wp2
              have HI3 := Aside0.mk (show Hp ah96 N ∧ N.Perm (D.drop 0) from ⟨HI.out.1, HI.out.2.trans HDS.out.1.symm⟩)
              clear hNl2 b9 b1 HI HDR
              go_loopw [13] (fun v13 wr => ∃ (i : Nat) (N : List S96), v13 = .int .i64 i ∧ i ≤ ls.length ∧ Aside0 (Hp ah96 N ∧ N.Perm (D.drop i)) ∧ Aside0 (Three w wr gh gg r4 r5 [] N ls.length ls.length (.slice Ao ls.length co) ls) ∧ Aside0 (Kd.R k48 48 wr B (fun k => B ≤ k) (.slice Ad ls.length cd) (D.map (·.f0)))) (fun v13 _ => ls.length - (intOf v13).toNat)
              case atStart => exact ⟨0, N, rfl, by omega, HI3, HD, HO⟩
              case round =>
                have HLL2 := Aside0.mk HLL.out.1
                clear HD HO HI3 HLL
                obtain ⟨i, N, rfl, hile, HI, HD, HO⟩ := hrel
                by_cases hi : i < ls.length
                · have hdr : D.drop i = hgt D i :: D.drop (i + 1) := by
                    have := HLL2.out
                    rw [hgt_eq D i (by omega)]
                    exact List.drop_eq_getElem_cons (by omega)
                  have hiD : i < D.length := by have := HLL2.out; omega
                  have hP := HI.out.2
                  rw [hdr] at hP
                  have hS2 := HDS.out.2.drop (i := i)
                  rw [hdr] at hS2
                  obtain ⟨dl, dh, dp, dperm⟩ := drain_next (key := fun y : S96 => (y.f0.f0.size : Int)) (at_ := fun y => y.f1) (Q := stamp mk96 0 ls) HI.out.1 hP hS2 (stamp_rise mk96 (fun y : S96 => y.f1) (fun _ _ => rfl) ls 0).1 (fun y hy => HDS.out.1.mem_iff.1 (List.mem_of_mem_drop (hdr ▸ hy)))
                  have HI2 : Aside0 (Hp ah96 (popF ah96 N) ∧ (popF ah96 N).Perm (D.drop (i + 1))) := ⟨dp, dperm⟩
                  obtain ⟨j, hj, r1, r2, r3⟩ := sorts_round (HLS.out.symm ▸ HDS.out.1) HDS.out.2 i hiD
                  rw [HLS.out] at r2
                  have hNl : N.length < 1099511627776 := by rw [HI.out.2.length_eq, List.length_drop]; have := HLL2.out; have := HLN.out; omega
                  obtain ⟨y, hy⟩ : ∃ y, hgt D i = y := ⟨_, rfl⟩
                  rw [hy] at dh r1 r2 r3
                  have hpo := HD.out.pop dl hNl dh ⟨HSZ.out.1, HSZ.out.2.1⟩ HO.out
                  obtain ⟨s, hs⟩ : ∃ s, y.f0.f0 = s := ⟨_, rfl⟩
                  rw [hs, r1] at hpo r3
                  have HPO := Aside0.mk hpo
                  have HS := Aside0.mk hs
                  have HR3 := Aside0.mk r3
                  have HY := Aside0.mk hy
                  have HR1 := Aside0.mk (And.intro r1 r2)
                  have HJ := Aside0.mk (show j < ls.length by have := HLN.out; omega)
                  have b1 : decide ((i : Int) < (ls.length : Int)) = true := decide_eq_true (by omega)
                  clear hdr hP hS2 dl dh dp dperm r1 r2 r3 hj hNl hy hiD HI HO hpo hs
                  go_upto_region 26 with (go_at_call 23; (with_reducible refine HPO.out.mono ?_); rintro e w9 ⟨rfl, hd9, ho9⟩; clear HD HPO; have HD := Aside0.mk hd9; have HO := Aside0.mk ho9; clear hd9 ho9)
                  have HK := Aside0.mk (blk_new w9 (.cells #[.string s, .int .i64 j] 48))
                  have n1_ := Aside0.mk (HD.out.below (below_alloc (Below.refl _ _) (.cells #[.string s, .int .i64 j] 48)))
                  have n2_ := Aside0.mk (Kd.R_alloc HO.out (.cells #[.string s, .int .i64 j] 48))
                  clear HD HO
                  have HD := n1_
                  have HO := n2_
                  clear n1_ n2_
                  generalize w9.alloc (.cells #[.string s, .int .i64 j] 48) = wz at HK HD HO ⊢
                  generalize w9.heap.size = gb at HK ⊢
                  have c0 : wz.cell? ⟨gb, 0, none⟩ = some (.string s) := (blk_cell HK.out 0).trans rfl
                  have c1 : wz.cell? ⟨gb, 1, none⟩ = some (.int .i64 j) := (blk_cell HK.out 1).trans rfl
                  have b2 : (i : Int) < (ls.length : Int) := by omega
                  have b3 : 0 ≤ (i : Int) := by omega
                  have b4 : (j : Int) < (ls.length : Int) := by have := HJ.out; omega
                  have b5 : 0 ≤ (j : Int) := by omega
                  have b6 : decide ((j : Int) < 0) = false := decide_eq_false (by omega)
                  have b7 : decide ((j : Int) ≥ (ls.length : Int)) = false := decide_eq_false (by omega)
                  have b8 : decide (ls.length ≤ j) = false := decide_eq_false (by omega)
                  have hml : (D.map (·.f0)).length = ls.length := by rw [List.length_map]; exact HLL2.out
                  have hoc : Kd.C k48 wz Ad ls.length (D.map (·.f0)) := by
                    have := HO.out
                    rw [← hml] at this
                    have := (Kd.R_reads' this).2.2
                    rwa [hml] at this
                  have hrd : ∀ t : Nat, rd_T48 (D.map (·.f0)) (t : Int) = (hgt D t).f0 := fun t => by
                    show (D.map (·.f0)).getD (t : Int).toNat z48 = (D.getD t z96).f0
                    rw [Int.toNat_natCast, List.getD_eq_getElem?_getD, List.getD_eq_getElem?_getD, List.getElem?_map]
                    cases D[t]? <;> rfl
                  obtain ⟨ao, e1, x0, x1⟩ := at_T48 hoc (i : Int) b3 b2
                  subst e1
                  rw [hrd, HY.out, Int.toNat_natCast, HS.out] at x0
                  rw [hrd, HY.out, Int.toNat_natCast, HR1.out.1] at x1
                  obtain ⟨aa, e2, z0, z1⟩ := at_T48 (Kd.R_reads' HD.out.al).2.2 (j : Int) b5 b4
                  subst e2
                  rw [HR1.out.2, Int.toNat_natCast, HS.out] at z0
                  rw [HR1.out.2, Int.toNat_natCast, HR1.out.1] at z1
                  have HOC := Aside0.mk hoc
                  have HRD := Aside0.mk hrd
                  clear hoc hrd hml
                  go_quiet (fail)
                  have n1_ := Aside0.mk (HD.out.below (pw_below_drewN (Below.refl _ _) nq))
                  have n2_ := Aside0.mk (Kd.R_below HO.out (pw_below_drewN (Below.refl _ _) nq))
                  have n3_ := Aside0.mk (Kd.C_below HOC.out (pw_below_drewN (Below.refl _ _) nq))
                  clear HD HO HOC HK x0 x1 z0 z1 c0 c1 b4 b5 b6 b7 b8
                  have HD := n1_
                  have HO := n2_
                  have HOC := n3_
                  clear n1_ n2_ n3_
                  go_upto_region 28 with (fail)
                  generalize wz.drewN nq = wy at HD HO HOC ⊢
                  have hw3 : IntKind.i64.wrap ((i : Int) + 1) = (i : Int) + 1 := by have := HLN.out; rw [IntKind.wrap_i64]; omega
                  rcases Nat.eq_zero_or_pos i with h0 | h0
                  · subst h0
                    clear b2 b3
                    go_quiet (fail)
                    go_wp2
                    go_roundw
                    case measure => simp [intOf]; omega
                    case rel => exact ⟨1, _, by go_num, by omega, HI2, ⟨HD.out.below (pw_below_drewN (Below.refl _ _) nq)⟩, ⟨Kd.R_below HO.out (pw_below_drewN (Below.refl _ _) nq)⟩⟩
                  · obtain ⟨m, hm⟩ : ∃ m, i = m + 1 := ⟨i - 1, by omega⟩
                    have hr3 := HR3.out m hm
                    obtain ⟨sp, hsp⟩ : ∃ sp, (hgt D m).f0.f0 = sp := ⟨_, rfl⟩
                    obtain ⟨jp, hjp⟩ : ∃ jp, (hgt D m).f0.f1 = jp := ⟨_, rfl⟩
                    rw [hsp, hjp] at hr3
                    have hw1 : IntKind.i64.wrap ((i : Int) - 1) = (m : Int) := by have := HLN.out; rw [IntKind.wrap_i64]; omega
                    have b4 : 0 ≤ (m : Int) := by omega
                    have b5 : (m : Int) < (ls.length : Int) := by omega
                    have b6 : decide ((i : Int) > 0) = true := decide_eq_true (by omega)
                    have b7 : decide (0 < i) = true := decide_eq_true h0
                    obtain ⟨ao2, e1, x0, x1⟩ := at_T48 HOC.out (i : Int) b3 b2
                    obtain rfl : ao = ao2 := Option.some.inj e1
                    rw [HRD.out, HY.out, Int.toNat_natCast, HS.out] at x0
                    rw [HRD.out, HY.out, Int.toNat_natCast, HR1.out.1] at x1
                    obtain ⟨ao2, e2, y0, y1⟩ := at_T48 HOC.out (m : Int) b4 b5
                    obtain rfl : ao = ao2 := Option.some.inj e2
                    rw [HRD.out, Int.toNat_natCast, hsp] at y0
                    rw [HRD.out, Int.toNat_natCast, hjp] at y1
                    have d1 : decide ((sp.size : Int) > (s.size : Int)) = false := decide_eq_false (by have := hr3.1; omega)
                    have d2 : decide (s.size < sp.size) = false := decide_eq_false (by have := hr3.1; omega)
                    have HM := Aside0.mk hm
                    by_cases he : sp.size = s.size
                    · have d3 : ((sp.size : Int) == (s.size : Int)) = true := by rw [he]; exact beq_self_eq_true _
                      have d4 : (sp.size == s.size) = true := by rw [he]; exact beq_self_eq_true _
                      have d5 : decide (sp.size = s.size) = true := decide_eq_true he
                      have d6 : decide (jp ≥ (j : Int)) = false := decide_eq_false (by have := hr3.2 (by omega); omega)
                      have d7 : decide ((j : Int) ≤ jp) = false := decide_eq_false (by have := hr3.2 (by omega); omega)
                      clear hr3 he hsp hjp e1 e2 hm h0
                      go_quiet (fail)
                      go_wp2
                      go_roundw
                      case measure => simp [intOf]; omega
                      case rel => exact ⟨i + 1, _, by go_num, by omega, HI2, ⟨HD.out.below (pw_below_drewN (Below.refl _ _) nq)⟩, ⟨Kd.R_below HO.out (pw_below_drewN (Below.refl _ _) nq)⟩⟩
                    · have d3 : ((sp.size : Int) == (s.size : Int)) = false := beq_eq_false_iff_ne.mpr (by omega)
                      have d4 : (sp.size == s.size) = false := beq_eq_false_iff_ne.mpr he
                      have d5 : decide (sp.size = s.size) = false := decide_eq_false he
                      clear hr3 he hsp hjp e1 e2 hm h0
                      go_quiet (fail)
                      go_wp2
                      go_roundw
                      case measure => simp [intOf]; omega
                      case rel => exact ⟨i + 1, _, by go_num, by omega, HI2, ⟨HD.out.below (pw_below_drewN (Below.refl _ _) nq)⟩, ⟨Kd.R_below HO.out (pw_below_drewN (Below.refl _ _) nq)⟩⟩
                · have hie : i = ls.length := by omega
                  subst hie
                  have b1 : decide ((ls.length : Int) < (ls.length : Int)) = false := decide_eq_false (by omega)
                  clear hi hile
                  go_wp2
                  go_ret
                  exact ⟨rfl, HD.out.be⟩
end Go.Proofs.Ytbmmlkifhhpjcaa.X
