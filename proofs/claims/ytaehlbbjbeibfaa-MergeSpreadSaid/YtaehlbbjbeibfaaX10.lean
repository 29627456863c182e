-- Laid by xprint.py, a program of this session's, out of the translation.
import Derived.Test.YtaehlbbjbeibfaaX0
namespace Go.Proofs.Ytaehlbbjbeibfaa.X
open Go.RowKit Go.Proofs.YtaehlbbjbeibfaaW.PrintWords Go.Proofs.YtaehlbbjbeibfaaW.PrintLast Go.Proofs.YtaehlbbjbeibfaaW.PrintMore
attribute [local go_sem] max2_int min2_int max_two min_two max_three min_three max_four min_four x_isSome x_str_gtr x_str_leq x_str_geq   -- for this text's walks alone
set_option linter.unusedVariables false
set_option linter.unusedSimpArgs false

/-! ### label_Pair: function 59 -/
section
open Go.Lib Go.Shelf Go.Proofs
variable {P : Program}
theorem label_Pair.run_copy_k (w : World) (dT sT ty elem : TypeId) (k : Nat) (b o dLen dCap : Nat) (a : Addr) (sLen sCap : Nat) (cs : List Value)
  (hu : P.underlying dT = some (.slice elem)) (hs : (P.info? elem).map (·.size) = some k) (hn : cs.length = Nat.min sLen dLen * k)
  (hsrc : ∀ j v, cs[j]? = some v → w.cell? (a.add j) = some v) (hc : ∀ j, j < cs.length → (w.cell? ⟨b, o + j, none⟩).isSome = true) (hf : ∀ j, j < cs.length → w.frozen? ⟨b, o + j, none⟩ = false) (h1 : ∀ v ∈ cs, v.oneCell' = true) :
  (Builtin.copy_ #[dT, sT] ty #[.slice (some ⟨b, o, none⟩) dLen dCap, .slice (some a) sLen sCap]).run P w = .ok (goInt (Nat.min sLen dLen : Nat)) (w.setCells b o cs) := by
 have hl := run_loadCells_list (P := P) w a cs hsrc
 have hst := run_storeCells_cells (P := P) b o cs 0 w (by simpa using hc) (by simpa using hf) h1
 cases hq : P.info? elem with
 | none => simp [hq] at hs
 | some i =>
  have hi : i.size = k := by simpa [hq] using hs
  simp [Builtin.copy_, run_underlying hu, Builtin.lenOf, Builtin.firstCells, sizeOf, typeInfo, hq, hi, ← hn, hl, hst]
theorem label_Pair.zeroCells_size' (n : Nat) : (Builtin.zeroCells (Value.agg #[.string ⟨#[]⟩, .string ⟨#[]⟩]).cells n).size = n * 2 := by
 simp [Builtin.zeroCells, Value.cells]
theorem label_Pair.zeroCells_len' (n : Nat) : (Builtin.zeroCells (Value.agg #[.string ⟨#[]⟩, .string ⟨#[]⟩]).cells n).toList.length = n * 2 := by rw [Array.length_toList, label_Pair.zeroCells_size']
set_option maxHeartbeats 4000000 in
set_option maxRecDepth 100000 in
theorem label_Pair.ins_shift (g n c i vb vc : Nat) (cs vs : List Value) (w : World) (hi : i < n) (hroom : n + 1 ≤ c) (hc63 : c ≤ 9223372036854775807) (hvb : vb ≠ g)
  (hcl : cs.length = n * 2) (hvl : vs.length = 2)
  (hcs : ∀ j v, cs[j]? = some v → w.cell? ⟨g, j, none⟩ = some v) (hsp : ∀ j, j < (n + 1) * 2 → (w.cell? ⟨g, j, none⟩).isSome = true) (hfz : ∀ j, w.frozen? ⟨g, j, none⟩ = false)
  (hvs : ∀ j v, vs[j]? = some v → w.cell? ⟨vb, j, none⟩ = some v) (h1c : ∀ v ∈ cs, v.oneCell' = true) (h1v : ∀ v ∈ vs, v.oneCell' = true)
  (tA tB : TypeId) (kA kB : Nat) (hsa : w.shape? vb = some (tA, kA)) (hsb : w.shape? g = some (tB, kB)) (hkB : kB ≠ 0) (hfa : ∀ j, w.frozen? ⟨vb, j, none⟩ = false) :
  Calls Try.prog 59 #[.slice (some ⟨g, 0, none⟩) n c, .int .i64 i, .slice (some ⟨vb, 0, none⟩) 1 vc] w fun e w' =>
   e = .returned (.slice (some ⟨g, 0, none⟩) (n + 1) c) ∧ w' = (w.drew.setCells g ((i + 1) * 2) (cs.drop (i * 2))).setCells g (i * 2) vs := by
 obtain ⟨i0, hi0, hz0, hzs, hzb⟩ := info_parts info103; have hsz : (Try.prog.info? 103).map (·.size) = some 2 := by rw [hi0]; simp [hzs]
 have hzz : ∀ w, (Go.sizeOf 103).run Try.prog w = .ok 2 w := fun w => by simp [sizeOf, typeInfo, hi0, hzs]
 have hz2 : ¬ ((i : Int) = (n : Int)) := by omega
 have hov : ∀ lb cb, (callFunc 65 #[.slice (some ⟨vb, 0, none⟩) 1 vc, .slice (some ⟨g, (i + 1) * 2, none⟩) lb cb]).run Try.prog w = .ok (.value (.bool false)) w := fun lb cb => by
  rw [run_callFunc_extern Try.func65 (by kernel_rfl) (by kernel_rfl) (by kernel_rfl) (e := Extern.SlicesOverlaps.overlaps #[23, 23] #[4]) (by kernel_rfl),
   Lib.run_overlaps_apart w 23 4 103 Try.underlying23 2 hzz ⟨vb, 0, none⟩ ⟨g, (i + 1) * 2, none⟩ 1 vc lb cb hvb tA tB kA kB hsa hsb hkB (hfa 0) (hfa kA)]
  rfl
 have hdl : (cs.drop (i * 2)).length = (n - i) * 2 := by rw [List.length_drop, hcl]; omega
 have hw1 : IntKind.i64.wrap ((i : Int) + 1) = (i : Int) + 1 := by rw [IntKind.wrap_i64]; omega
 have hw2 : IntKind.i64.wrap ((n : Int) + 1) = (n : Int) + 1 := by rw [IntKind.wrap_i64]; omega
 have hcp1 : ∀ ty dc sc, (Builtin.copy_ #[24, 24] ty #[.slice (some ⟨g, (i + 1) * 2, none⟩) (n - i) dc, .slice (some ⟨g, i * 2, none⟩) (n + 1 - i) sc]).run Try.prog w.drew = .ok (goInt (n - i : Nat)) (w.drew.setCells g ((i + 1) * 2) (cs.drop (i * 2))) := fun ty dc sc => by
  have h := label_Pair.run_copy_k w.drew 24 24 ty 103 2 g ((i + 1) * 2) (n - i) dc ⟨g, i * 2, none⟩ (n + 1 - i) sc (cs.drop (i * 2)) Try.underlying24 hsz (by rw [hdl]; simp only [Nat.min_def]; split <;> omega)
   (fun j v hj => by rw [Addr.add_lit]; exact hcs (i * 2 + j) v (by rwa [List.getElem?_drop] at hj))
   (fun j hj => by exact hsp _ (by omega)) (fun j hj => by exact hfz _) (fun v hv => h1c v (List.mem_of_mem_drop hv))
  rw [h]; have : Nat.min (n + 1 - i) (n - i) = n - i := by simp only [Nat.min_def]; split <;> omega
  rw [this]
 obtain ⟨W1, hW1⟩ : ∃ W1, W1 = w.drew.setCells g ((i + 1) * 2) (cs.drop (i * 2)) := ⟨_, rfl⟩
 have hsp1 : ∀ k, k < (n + 1) * 2 → (W1.cell? ⟨g, k, none⟩).isSome = true := fun k hk => by
  rw [hW1]; exact isSome_setCells g (cs.drop (i * 2)) ((i + 1) * 2) w.drew (fun j hj => hsp ((i + 1) * 2 + j) (by rw [hdl] at hj; omega)) k (hsp k hk)
 have hcp2 : ∀ (W : World), (∀ x, W.cell? x = W1.cell? x) → (∀ x, W.frozen? x = W1.frozen? x) → ∀ ty dc, (Builtin.copy_ #[24, 23] ty #[.slice (some ⟨g, i * 2, none⟩) (n + 1 - i) dc, .slice (some ⟨vb, 0, none⟩) 1 vc]).run Try.prog W = .ok (goInt (1 : Nat)) (W.setCells g (i * 2) vs) := fun W hWc hWf ty dc => by
  have h := label_Pair.run_copy_k W 24 23 ty 103 2 g (i * 2) (n + 1 - i) dc ⟨vb, 0, none⟩ 1 vc vs Try.underlying24 hsz (by rw [hvl]; simp only [Nat.min_def]; split <;> omega)
   (fun j v hj => by
    rw [Addr.add_lit, Nat.zero_add, hWc, hW1, World.cell?_setCells_out g _ _ _ _ (fun h _ => absurd h hvb)]; exact hvs j v hj)
   (fun j hj => by rw [hWc]; exact hsp1 _ (by omega)) (fun j hj => by rw [hWf, hW1, World.frozen?_setCells]; exact hfz _) h1v
  rw [h]; have : Nat.min 1 (n + 1 - i) = 1 := by simp only [Nat.min_def]; split <;> omega
  rw [this]
 rw [← hW1] at hcp1; have mixed : Try.prog.follows .mixedOrders = true := by kernel_rfl
 have u24 := run_underlying Try.underlying23; have u31 := run_underlying Try.underlying24; have hb1 : (0 : Int) ≤ (i : Int) + 1 := by omega
 have hin : i ≤ n := by omega
 have hb3 : (i : Int) ≤ (n : Int) + 1 := by omega
 have hb4 : ¬ (c = i) := by omega
 have hb2 : ¬ (c = i + 1) := by omega
 have htn : ((i : Int) + 1).toNat = i + 1 := by omega
 have htn2 : ((n : Int) + 1).toNat = n + 1 := by omega
 have hc0 : ((n : Int) + 1) ≤ (c : Int) := by omega
 go_enter Try.func59, Try.ntmps59
 go_wp2_with (simp only [hov])
 go_region_law_o (refine step_copy_runI rfl _ _ 24 24 rfl _ _ (by simp [Act.eval, Act.put]) (by simp [Act.eval, Act.put]) (hcp1 _ _ _) ?_)
 go_wp2_with (at_builtin; refine wpList_copy_runI _ rfl _ _ 24 23 rfl _ _ rfl rfl (hcp2 _ (fun _ => rfl) (fun _ => rfl) _ _) ?_)
 go_ret
 first | exact ⟨rfl, rfl⟩ | exact ⟨rfl, by rw [hW1]⟩
set_option maxHeartbeats 4000000 in
set_option maxRecDepth 100000 in
theorem label_Pair.ins_grow (g n c i vb vc : Nat) (cs vs : List Value) (w : World) (hi : i < n) (hnc : n ≤ c) (hroom : c < n + 1) (hbig : (n + 1) * 32 ≤ 140737488355328)
  (hcl : cs.length = n * 2) (hvl : vs.length = 2)
  (hcs : ∀ j v, cs[j]? = some v → w.cell? ⟨g, j, none⟩ = some v)
  (hvs : ∀ j v, vs[j]? = some v → w.cell? ⟨vb, j, none⟩ = some v) (h1c : ∀ v ∈ cs, v.oneCell' = true) (h1v : ∀ v ∈ vs, v.oneCell' = true) :
  Calls Try.prog 59 #[.slice (some ⟨g, 0, none⟩) n c, .int .i64 i, .slice (some ⟨vb, 0, none⟩) 1 vc] w fun e w' =>
   e = .returned (.slice (some ⟨w.heap.size, 0, none⟩) (n + 1) (grownCap w (n + 1) c 103)) ∧
   w' = (((w.alloc (.cells ((cs.take (i * 2)).toArray ++ Builtin.zeroCells (Value.agg #[.string ⟨#[]⟩, .string ⟨#[]⟩]).cells (n + 1 - i) ++ Builtin.zeroCells (Value.agg #[.string ⟨#[]⟩, .string ⟨#[]⟩]).cells (grownCap w (n + 1) c 103 - (n + 1))) 103)).drew.setCells w.heap.size (i * 2) vs).drew).setCells w.heap.size ((i + 1) * 2) (cs.drop (i * 2)) := by
 obtain ⟨i0, hi0, hz0, hzs, hzb⟩ := info_parts info103; have hsz : (Try.prog.info? 103).map (·.size) = some 2 := by rw [hi0]; simp [hzs]
 have hz2 : ¬ ((i : Int) = (n : Int)) := by omega
 have hz3 : (c : Int) < (n : Int) + 1 := by omega
 have hbw : g < w.heap.size := block_lt_of_cell (hcs 0 _ (List.getElem?_eq_getElem (by omega))); have hvw : vb < w.heap.size := block_lt_of_cell (hvs 0 _ (List.getElem?_eq_getElem (by omega))); have hkk : (n : Int) + 1 - (i : Int) = ((n + 1 - i : Nat) : Int) := by omega
 have hik : i + (n + 1 - i) = n + 1 := by omega
 have hold : (Builtin.firstCells i0.size i (.slice (some ⟨g, 0, none⟩) i c)).run Try.prog w.drew = .ok (cs.take (i * 2)).toArray w.drew := by
  rw [hzs]
  exact run_firstCells_some w.drew 2 i ⟨g, 0, none⟩ i c (cs.take (i * 2)) (by rw [List.length_take]; omega) (fun j v hj => by
   rw [Addr.add_lit, Nat.zero_add]; rw [List.getElem?_take] at hj; split at hj
   ·exact hcs j v hj
   ·cases hj)
 have hrz : ∀ ty, (Builtin.append_ #[24, 3] ty #[.slice (some ⟨g, 0, none⟩) i c, .int .i64 ((n : Int) + 1 - (i : Int))]).run Try.prog w =
   .ok (.slice (some ⟨w.heap.size, 0, none⟩) (n + 1) (grownCap w (n + 1) c 103)) (w.drew.alloc (.cells ((cs.take (i * 2)).toArray ++ Builtin.zeroCells (Value.agg #[.string ⟨#[]⟩, .string ⟨#[]⟩]).cells (n + 1 - i) ++ Builtin.zeroCells (Value.agg #[.string ⟨#[]⟩, .string ⟨#[]⟩]).cells (grownCap w (n + 1) c 103 - (n + 1))) 103)) := fun ty => by
  have h := Lib.run_append_grow_zeros w 24 3 ty 103 i0 _ .i64 .i64 Try.underlying24 Try.underlying3 hi0 hz0 (some ⟨g, 0, none⟩) i c (cs.take (i * 2)) hold (n + 1 - i) (by omega) (by omega) (by omega) (by omega) (by rw [hzb]; omega) (by rw [hzb, hik]; exact growslice_fits hroom hbig); rw [hik] at h; rw [hkk]; exact h
 obtain ⟨G, hG⟩ : ∃ G, G = grownCap w (n + 1) c 103 := ⟨_, rfl⟩; obtain ⟨ROW, hROW⟩ : ∃ ROW : Array Value, ROW = (cs.take (i * 2)).toArray ++ Builtin.zeroCells (Value.agg #[.string ⟨#[]⟩, .string ⟨#[]⟩]).cells (n + 1 - i) ++ Builtin.zeroCells (Value.agg #[.string ⟨#[]⟩, .string ⟨#[]⟩]).cells (G - (n + 1)) := ⟨_, rfl⟩; rw [← hG] at hrz ⊢; rw [← hROW] at hrz ⊢
 have hRl : (n + 1) * 2 ≤ ROW.size := by
  rw [hROW]; simp [label_Pair.zeroCells_size']; omega
 obtain ⟨W1, hW1⟩ : ∃ W1, W1 = w.drew.alloc (.cells ROW 103) := ⟨_, rfl⟩; rw [← hW1] at hrz
 have hN : ∀ j, j < (n + 1) * 2 → (W1.cell? ⟨w.heap.size, j, none⟩).isSome = true := fun j hj => by
  rw [hW1, World.cell?_alloc_at (w := w.drew) ROW _ w.heap.size j rfl, Array.getElem?_eq_getElem (by omega)]; rfl
 have hNf : ∀ j, W1.frozen? ⟨w.heap.size, j, none⟩ = false := fun j => by rw [hW1]; exact World.frozen?_alloc_at (w := w.drew) ROW _ w.heap.size j rfl
 have hOb : ∀ j v, w.cell? ⟨g, j, none⟩ = some v → W1.cell? ⟨g, j, none⟩ = some v := fun j v h => by rw [hW1, World.cell?_alloc_past (w := w.drew) _ g j hbw]; exact h
 have hOv : ∀ j v, w.cell? ⟨vb, j, none⟩ = some v → W1.cell? ⟨vb, j, none⟩ = some v := fun j v h => by rw [hW1, World.cell?_alloc_past (w := w.drew) _ vb j hvw]; exact h
 have hcpA : ∀ (W : World), (∀ x, W.cell? x = W1.cell? x) → (∀ x, W.frozen? x = W1.frozen? x) → ∀ ty dc, (Builtin.copy_ #[24, 23] ty #[.slice (some ⟨w.heap.size, i * 2, none⟩) (n + 1 - i) dc, .slice (some ⟨vb, 0, none⟩) 1 vc]).run Try.prog W = .ok (goInt (1 : Nat)) (W.setCells w.heap.size (i * 2) vs) := fun W hWc hWf ty dc => by
  have h := label_Pair.run_copy_k W 24 23 ty 103 2 w.heap.size (i * 2) (n + 1 - i) dc ⟨vb, 0, none⟩ 1 vc vs Try.underlying24 hsz (by rw [hvl]; simp only [Nat.min_def]; split <;> omega)
   (fun j v hj => by rw [Addr.add_lit, Nat.zero_add, hWc]; exact hOv _ v (hvs j v hj))
   (fun j hj => by rw [hWc]; exact hN _ (by omega)) (fun j hj => by rw [hWf]; exact hNf _) h1v
  rw [h]; have : Nat.min 1 (n + 1 - i) = 1 := by simp only [Nat.min_def]; split <;> omega
  rw [this]
 have hGn : n + 1 ≤ G := by rw [hG]; exact grownCap_ge w _ _ _
 have hG63 : G ≤ 9223372036854775807 := by
  have := grownCap_le_maxLen w (n + 1) c 103 (by unfold maxLen; omega); rw [← hG] at this; unfold maxLen at this; omega
 have hGi : ¬ (G = i) := by omega
 have hGim : ¬ (G = i + 1) := by omega
 have hci : ¬ (c = i) := by omega
 have hbN : g ≠ w.heap.size := by omega
 have hdl : (cs.drop (i * 2)).length = (n - i) * 2 := by rw [List.length_drop, hcl]; omega
 have hcpB : ∀ (W : World), (∀ x, W.cell? x = (W1.setCells w.heap.size (i * 2) vs).cell? x) → (∀ x, W.frozen? x = (W1.setCells w.heap.size (i * 2) vs).frozen? x) → ∀ ty dc sc, (Builtin.copy_ #[24, 24] ty #[.slice (some ⟨w.heap.size, (i + 1) * 2, none⟩) (n - i) dc, .slice (some ⟨g, i * 2, none⟩) (n - i) sc]).run Try.prog W = .ok (goInt (n - i : Nat)) (W.setCells w.heap.size ((i + 1) * 2) (cs.drop (i * 2))) := fun W hWc hWf ty dc sc => by
  have h := label_Pair.run_copy_k W 24 24 ty 103 2 w.heap.size ((i + 1) * 2) (n - i) dc ⟨g, i * 2, none⟩ (n - i) sc (cs.drop (i * 2)) Try.underlying24 hsz (by rw [hdl]; simp only [Nat.min_def]; split <;> omega)
   (fun j v hj => by
    rw [Addr.add_lit, hWc, World.cell?_setCells_out _ _ _ _ _ (fun h _ => absurd h hbN)]; exact hOb _ v (hcs (i * 2 + j) v (by rwa [List.getElem?_drop] at hj)))
   (fun j hj => by rw [hWc]; exact isSome_setCells w.heap.size vs (i * 2) W1 (fun t ht => hN _ (by omega)) _ (hN _ (by rw [hdl] at hj; omega)))
   (fun j hj => by rw [hWf, World.frozen?_setCells]; exact hNf _) (fun v hv => h1c v (List.mem_of_mem_drop hv))
  rw [h]; have : Nat.min (n - i) (n - i) = n - i := by simp only [Nat.min_def]; split <;> omega
  rw [this]
 subst hW1; have hE1 : ∀ x, ((w.alloc (.cells ROW 103)).drew).cell? x = (w.drew.alloc (.cells ROW 103)).cell? x := fun x => rfl
 have hE2 : ∀ x, ((w.alloc (.cells ROW 103)).drew).frozen? x = (w.drew.alloc (.cells ROW 103)).frozen? x := fun x => rfl
 have hF1 : ∀ x, (((w.alloc (.cells ROW 103)).drew.setCells w.heap.size (i * 2) vs).drew).cell? x = ((w.drew.alloc (.cells ROW 103)).setCells w.heap.size (i * 2) vs).cell? x := fun x => rfl
 have hF2 : ∀ x, (((w.alloc (.cells ROW 103)).drew.setCells w.heap.size (i * 2) vs).drew).frozen? x = ((w.drew.alloc (.cells ROW 103)).setCells w.heap.size (i * 2) vs).frozen? x := fun x => rfl
 have mixed : Try.prog.follows .mixedOrders = true := by kernel_rfl
 have u24 := run_underlying Try.underlying23; have u31 := run_underlying Try.underlying24; have u3 := run_underlying Try.underlying3; have hw1 : IntKind.i64.wrap ((i : Int) + 1) = (i : Int) + 1 := by rw [IntKind.wrap_i64]; omega
 have hw2 : IntKind.i64.wrap ((n : Int) + 1) = (n : Int) + 1 := by rw [IntKind.wrap_i64]; omega
 have hb1 : (0 : Int) ≤ (i : Int) + 1 := by omega
 have hin : i ≤ n := by omega
 have htn : ((i : Int) + 1).toNat = i + 1 := by omega
 have hb3 : (i : Int) ≤ (n : Int) := by omega
 clear hkk hik hold hROW hG hRl; go_enter Try.func59, Try.ntmps59
 go_wp2_with (first
  | (at_builtin; refine Lib.wpList_append_run _ rfl _ _ _ _ rfl _ _ rfl rfl _ _ (hrz _) ?_)
  | (at_builtin; refine wpList_copy_runI _ rfl _ _ 24 23 rfl _ _ rfl rfl (hcpA _ hE1 hE2 _ _) ?_)
  | (at_builtin; refine wpList_copy_runI _ rfl _ _ 24 24 rfl _ _ rfl rfl (hcpB _ (fun _ => rfl) (fun _ => rfl) _ _ _) ?_))
 go_region_law_o (refine step_copy_runI rfl _ _ 24 24 rfl (.slice (some ⟨w.heap.size, (i + 1) * 2, none⟩) (n - i) (G - (i + 1))) (.slice (some ⟨g, i * 2, none⟩) (n - i) (c - i)) (by simp [Act.eval, Act.put]) (by simp [Act.eval, Act.put]) (hcpB _ hF1 hF2 3 (G - (i + 1)) (c - i)) ?_)
 go_wp2
 go_ret
 exact ⟨rfl, rfl⟩

/-! ### rows of the call's own, written in place -/
theorem label_Pair.setCells_setRow {w : World} {g : Nat} {cur : Array Value} {t : TypeId} (hg : w.heap[g]? = some (.cells cur t (0, 0))) (o : Nat) (vs : List Value) (hl : o + vs.length ≤ cur.size) (h1 : ∀ v ∈ vs, v.oneCell' = true) :
  w.setCells g o vs = w.setRow g (cur.toList.take o ++ vs ++ cur.toList.drop (o + vs.length)).toArray := by
 have a := run_storeCells_at Try.prog g o t vs 0 cur w hg (by simpa using hl) h1
 have hc : ∀ j, j < cur.size → w.cell? ⟨g, j, none⟩ = some cur[j]! := fun j hj => by simp [World.cell?, hg, hj]
 have b := run_storeCells_cells (P := Try.prog) g o vs 0 w (fun j hj => by rw [Nat.add_zero, hc _ (by omega)]; rfl) (fun j hj => by simp [World.frozen?, hg]) h1
 rw [a] at b
 simp only [Result.ok.injEq, true_and, Nat.add_zero] at b
 exact b.symm
theorem label_Pair.kept_setCells {w : World} {S : Nat → Prop} {g : Nat} (hp : S g ∨ w.heap.size ≤ g) : ∀ (vs : List Value) (o : Nat) {W : World}, Kept w W S → Kept w (W.setCells g o vs) S
 | [], _, _, h => h
 | v :: r, o, _, h => label_Pair.kept_setCells hp r (o + 1) (h.setCell (p := ⟨g, o, none⟩) hp v)
theorem label_Pair.below_setCells' {B g : Nat} {a : World} (hg : B ≤ g) : ∀ (vs : List Value) (o : Nat) {W : World}, Below B a W → Below B a (W.setCells g o vs)
 | [], _, _, h => h
 | v :: r, o, _, h => label_Pair.below_setCells' hg r (o + 1) (h.setCell hg v)
def label_Pair.enc (x : S103) : List Value := [.string x.f0, .string x.f1]
theorem label_Pair.enc_length : ∀ l : List S103, (l.flatMap label_Pair.enc).length = l.length * 2
 | [] => rfl
 | x :: l => by rw [List.flatMap_cons, List.length_append, label_Pair.enc_length l, List.length_cons]; simp [label_Pair.enc]; omega
theorem label_Pair.reps_enc {w : World} {base : Nat} {ok : Nat → Prop} : ∀ {ps : List S103} {cs : List Value}, Reps (k103.M w base ok) 2 ps cs → cs = ps.flatMap label_Pair.enc
 | [], cs, h => List.eq_nil_of_length_eq_zero (by have := h.1; simpa using this)
 | p :: ps, cs, h => by
  have h0 := h.2 0 p rfl
  rw [Nat.zero_mul, List.drop_zero] at h0
  have h1 := k103_openM h0
  have h2 : Reps (k103.M w base ok) 2 ps (cs.drop 2) := ⟨by rw [List.length_drop, h.1, List.length_cons]; omega, fun j q hq => by
   have := h.2 (j + 1) q (by simpa using hq)
   rw [List.drop_drop]
   rw [show (j + 1) * 2 = 2 + j * 2 by omega] at this
   exact this⟩
  rw [List.flatMap_cons, ← label_Pair.reps_enc h2]
  have : label_Pair.enc p = cs.take 2 := h1.symm
  rw [this, List.take_append_drop]
theorem label_Pair.enc_take (l : List S103) (i : Nat) (hi : i ≤ l.length) : (l.flatMap label_Pair.enc).take (i * 2) = (l.take i).flatMap label_Pair.enc := by
 conv => lhs; rw [← List.take_append_drop i l, List.flatMap_append]
 exact List.take_left' (by rw [label_Pair.enc_length, List.length_take, Nat.min_eq_left hi])
theorem label_Pair.enc_drop (l : List S103) (i : Nat) (hi : i ≤ l.length) : (l.flatMap label_Pair.enc).drop (i * 2) = (l.drop i).flatMap label_Pair.enc := by
 conv => lhs; rw [← List.take_append_drop i l, List.flatMap_append]
 exact List.drop_left' (by rw [label_Pair.enc_length, List.length_take, Nat.min_eq_left hi])
theorem label_Pair.reps_of_enc (w : World) (base : Nat) (ok : Nat → Prop) (ps : List S103) : Reps (k103.M w base ok) 2 ps (ps.flatMap label_Pair.enc) := by
 refine ⟨label_Pair.enc_length ps, fun j p hj => ?_⟩
 obtain ⟨hl, hp⟩ := List.getElem?_eq_some_iff.1 hj
 rw [label_Pair.enc_drop ps j (Nat.le_of_lt hl), List.drop_eq_getElem_cons hl, hp, List.flatMap_cons]
 rw [List.take_left' (show (label_Pair.enc p).length = 2 from rfl)]
 exact k103_mkM w base ok p
/-- a part of a list, written over -/
def label_Pair.seg (l : List Value) (a : Nat) (v : List Value) : List Value := l.take a ++ v ++ l.drop (a + v.length)
theorem label_Pair.seg_len (l : List Value) (a : Nat) (v : List Value) (h : a + v.length ≤ l.length) : (label_Pair.seg l a v).length = l.length := by
 simp only [label_Pair.seg, List.length_append, List.length_take, List.length_drop]
 omega
theorem label_Pair.seg_grown (X V D Z : List Value) (hz : V.length + D.length ≤ Z.length) : (label_Pair.seg (label_Pair.seg (X ++ Z) X.length V) (X.length + V.length) D).take (X.length + V.length + D.length) = X ++ V ++ D := by
 have e1 : label_Pair.seg (X ++ Z) X.length V = X ++ V ++ Z.drop V.length := by
  rw [label_Pair.seg, List.take_left, ← List.drop_drop, List.drop_left]
 rw [e1, label_Pair.seg]
 have e2 : (X ++ V ++ Z.drop V.length).take (X.length + V.length) = X ++ V := List.take_left' (by rw [List.length_append])
 rw [e2]
 exact List.take_left' (by rw [List.length_append, List.length_append])
theorem label_Pair.seg_shift (X Y V D Z : List Value) (hy : Y.length = V.length) (hz : D.length ≤ Z.length) : (label_Pair.seg (label_Pair.seg (X ++ Y ++ Z) (X.length + Y.length) D) X.length V).take (X.length + V.length + D.length) = X ++ V ++ D := by
 have e1 : label_Pair.seg (X ++ Y ++ Z) (X.length + Y.length) D = X ++ Y ++ D ++ Z.drop D.length := by
  rw [label_Pair.seg, List.take_left' (by rw [List.length_append]), ← List.drop_drop, List.drop_left' (by rw [List.length_append])]
 rw [e1, label_Pair.seg]
 have e2 : (X ++ Y ++ D ++ Z.drop D.length).take X.length = X := by
  rw [List.append_assoc, List.append_assoc]
  exact List.take_left
 have e3 : (X ++ Y ++ D ++ Z.drop D.length).drop (X.length + V.length) = D ++ Z.drop D.length := by
  rw [List.append_assoc (X ++ Y)]
  exact List.drop_left' (by rw [List.length_append, hy])
 rw [e2, e3, ← List.append_assoc]
 exact List.take_left' (by rw [List.length_append, List.length_append])
theorem label_Pair.setCells_seg {w : World} {g : Nat} {cur : Array Value} {t : TypeId} (hg : w.heap[g]? = some (.cells cur t (0, 0))) (o : Nat) (vs : List Value) (hl : o + vs.length ≤ cur.size) (h1 : ∀ v ∈ vs, v.oneCell' = true) :
  w.setCells g o vs = w.setRow g (label_Pair.seg cur.toList o vs).toArray := label_Pair.setCells_setRow hg o vs hl h1
/-- two parts written over, one behind the other -/
theorem label_Pair.setCells_two {w : World} {g : Nat} {cur : Array Value} {t : TypeId} (hg : w.heap[g]? = some (.cells cur t (0, 0))) (o1 o2 : Nat) (v1 v2 : List Value) (hl1 : o1 + v1.length ≤ cur.size) (hl2 : o2 + v2.length ≤ cur.size) (h1 : ∀ v ∈ v1, v.oneCell' = true) (h2 : ∀ v ∈ v2, v.oneCell' = true) :
  (((w.setCells g o1 v1).drew).setCells g o2 v2).heap[g]? = some (.cells (label_Pair.seg (label_Pair.seg cur.toList o1 v1) o2 v2).toArray t (0, 0)) ∧ ((w.setCells g o1 v1).setCells g o2 v2).heap[g]? = some (.cells (label_Pair.seg (label_Pair.seg cur.toList o1 v1) o2 v2).toArray t (0, 0)) ∧ (label_Pair.seg (label_Pair.seg cur.toList o1 v1) o2 v2).toArray.size = cur.size := by
 have s1 : (label_Pair.seg cur.toList o1 v1).length = cur.size := by rw [label_Pair.seg_len _ _ _ (by rw [Array.length_toList]; exact hl1), Array.length_toList]
 have e1 := label_Pair.setCells_seg hg o1 v1 hl1 h1
 have hg1 : (w.setCells g o1 v1).heap[g]? = some (.cells (label_Pair.seg cur.toList o1 v1).toArray t (0, 0)) := by rw [e1]; exact setRow_heap w g cur _ t _ hg
 have hg1' : ((w.setCells g o1 v1).drew).heap[g]? = some (.cells (label_Pair.seg cur.toList o1 v1).toArray t (0, 0)) := hg1
 refine ⟨?_, ?_, ?_⟩
 ·rw [label_Pair.setCells_seg hg1' o2 v2 (by simpa [s1] using hl2) h2]
  exact setRow_heap _ g _ _ t _ hg1'
 ·rw [label_Pair.setCells_seg hg1 o2 v2 (by simpa [s1] using hl2) h2]
  exact setRow_heap _ g _ _ t _ hg1
 ·rw [List.size_toArray, label_Pair.seg_len _ _ _ (by rw [s1]; exact hl2), s1]
theorem label_Pair.enc_one (l : List S103) : ∀ v ∈ l.flatMap label_Pair.enc, v.oneCell' = true := fun v hv => by
 obtain ⟨x, _, hx⟩ := List.mem_flatMap.1 hv
 simp only [label_Pair.enc, List.mem_cons, List.not_mem_nil, or_false] at hx
 rcases hx with rfl | rfl <;> rfl
/-- what a row of the call's own is made of -/
theorem label_Pair.R_made {W : World} {base g n cap : Nat} {cur : Array Value} {ok : Nat → Prop} {ps : List S103} (hok : ok g) (hb : base ≤ g) (hh : W.heap[g]? = some (.cells cur 103 (0, 0))) (hn : ps.length = n) (hc : n ≤ cap) (hm : cap ≤ maxLen) (hs : cur.size = cap * 2)
  (ht : cur.toList.take (n * 2) = ps.flatMap label_Pair.enc) : Kd.R k103 103 W base ok (.slice (some ⟨g, 0, none⟩) n cap) ps := by
 subst hn
 refine ⟨fun k hk => by simp only [Value.ownBlock, Option.some.injEq] at hk; exact hk ▸ hok, ps.flatMap label_Pair.enc, ⟨label_Pair.enc_length ps, .inr ⟨g, cap, cur, rfl, hb, hh, hc, hm, hs, ht⟩⟩, label_Pair.reps_of_enc _ _ _ ps⟩
def label_Pair.f (l0 : List S103) (a1 : Int) (l2 : List S103) : Option (List S103) := if 0 ≤ a1 ∧ a1 ≤ l0.length ∧ l2.length = 1 ∧ l0.length + 1 < 4398046511104 then some (l0.take a1.toNat ++ l2 ++ l0.drop a1.toNat) else none
theorem label_Pair.lf {p_ : Prop} (h : p_ := by
 go_enter Try.func59, Try.ntmps59
 go_wp2_with ((with_reducible refine gate_builtin (b := .append) (xs := #[.tmp 23, .tmp 24]) rfl ?_); at_builtin; refine x_R_append_rows2 k103 (w0 := w0) w0.heap.size rfl (.tmp 23) (.tmp 24) 24 23 103 (.agg #[(.string ⟨#[]⟩), (.string ⟨#[]⟩)]) 32 rfl Try.underlying24 Try.underlying23 info103 rfl (by decide) (by omega) _ l0 l2 _ _ _ (fun k_ => ((P0_ k_ ∨ P2_ k_) ∨ w.heap.size ≤ k_)) (fun _ => False) rfl rfl ?aO ?aR (fun _ _ h => h) (fun _ h => h.elim) ?aF ?aB ?aS ?aL ?_; (case aR => exact (Kd.R_reads' h2A.out).2.2); (case aB => exact hBA.out); (case aF => exact fun k_ hk => .inr hk); (case aO => exact Kd.R_mono h0A.out (fun k_ hk => .inl (.inl hk))); (case aS => exact hs0); (case aL => have := hLM.out; have := hL2.out; omega); intro vq0 wq1 ho hb hg hat)
 go_ret
 refine ⟨_, rfl, ?_, hb, Kept.of_grown hg (Kept.refl w _) (fun k_ e_ => .inl (.inl (h0A.out.1 k_ e_)))⟩; rw [List.take_length, List.drop_length, List.append_nil]; exact ho) : p_ := h
set_option maxHeartbeats 8000000 in
set_option maxRecDepth 100000 in
theorem label_Pair.calls (P0_ : Nat → Prop) (u9000_ : Value) (l0 : List (S103)) (a1 : Int) (P2_ : Nat → Prop) (u9001_ : Value) (l2 : List (S103)) (r : List (S103)) (w0 w : World) (hB : Below w0.heap.size w0 w) (ho0 : Kd.R k103 103 w w0.heap.size P0_ u9000_ l0) (hp0_2 : ∀ k_, P0_ k_ → ¬ P2_ k_) (ho2 : Kd.R k103 103 w w0.heap.size P2_ u9001_ l2) (hp2_0 : ∀ k_, P2_ k_ → ¬ P0_ k_) (h : label_Pair.f l0 a1 l2 = some r) :
  Calls Try.prog 59 #[u9000_, .int .i64 a1, u9001_] w fun e w' => ∃ v0_ : Value, e = .returned (v0_) ∧ Kd.R k103 103 w' w0.heap.size (fun k_ => ((P0_ k_ ∨ P2_ k_) ∨ w.heap.size ≤ k_)) v0_ r ∧ Below w0.heap.size w0 w' ∧ Kept w w' (fun k_ => P0_ k_ ∨ P2_ k_) := by
 unfold label_Pair.f at h
 split at h
 case isFalse => simp at h
 rename_i hc
 obtain ⟨hc0, hc1, hc2, hc3⟩ := hc
 obtain rfl := Option.some.inj h
 clear h
 obtain ⟨i, rfl⟩ := Int.eq_ofNat_of_zero_le hc0
 rw [Int.toNat_natCast]
 have hin : i ≤ l0.length := by omega
 have hs0 := hB.size
 rcases Nat.lt_or_ge i l0.length with hi | hi
 ·-- in the middle: in place, or grown
  obtain ⟨hk0, inner, hown, hreps⟩ := ho0
  obtain ⟨hk2, inner2, hown2, hreps2⟩ := ho2
  have hsz : k103.sz = 2 := rfl
  rw [hsz] at hown hown2 hreps hreps2
  obtain rfl := label_Pair.reps_enc hreps
  obtain rfl := label_Pair.reps_enc hreps2
  rcases hown.2 with ⟨_, hz⟩ | ⟨g, cap, cur, rfl, hg, hh, hn, hcap, hcs, hct⟩
  ·omega
  rcases hown2.2 with ⟨_, hz⟩ | ⟨g2, cap2, cur2, rfl, hg2, hh2, hn2, hcap2, hcs2, hct2⟩
  ·omega
  have p0 : P0_ g := hk0 g rfl
  have p2 : P2_ g2 := hk2 g2 rfl
  have hne : g2 ≠ g := fun e => hp0_2 g p0 (e ▸ p2)
  have hcell : ∀ j v, (l0.flatMap label_Pair.enc)[j]? = some v → w.cell? ⟨g, j, none⟩ = some v := fun j v hj => by
   rw [← hct, List.getElem?_take] at hj
   split at hj
   ·simp only [World.cell?, hh]
    simpa using hj
   ·cases hj
  have hcell2 : ∀ j v, (l2.flatMap label_Pair.enc)[j]? = some v → w.cell? ⟨g2, j, none⟩ = some v := fun j v hj => by
   rw [← hct2, List.getElem?_take] at hj
   split at hj
   ·simp only [World.cell?, hh2]
    simpa using hj
   ·cases hj
  have hlen0 := label_Pair.enc_length l0
  have hlen2 : (l2.flatMap label_Pair.enc).length = 2 := by rw [label_Pair.enc_length, hc2]
  have hmx : maxLen ≤ 9223372036854775807 := by decide
  have hL : (l0.take i ++ l2 ++ l0.drop i).length = l0.length + 1 := by
   rw [List.length_append, List.length_append, List.length_take, List.length_drop, hc2]
   omega
  have hE : (l0.take i ++ l2 ++ l0.drop i).flatMap label_Pair.enc = (l0.flatMap label_Pair.enc).take (i * 2) ++ l2.flatMap label_Pair.enc ++ (l0.flatMap label_Pair.enc).drop (i * 2) := by
   rw [List.flatMap_append, List.flatMap_append, label_Pair.enc_take l0 i hin, label_Pair.enc_drop l0 i hin]
  rw [hc2]
  rcases Nat.lt_or_ge cap (l0.length + 1) with hroom | hroom
  ·refine (label_Pair.ins_grow g l0.length cap i g2 cap2 _ _ w hi hn hroom (by omega) hlen0 hlen2 hcell hcell2 (label_Pair.enc_one _) (label_Pair.enc_one _)).mono ?_
   rintro e w' ⟨rfl, rfl⟩
   obtain ⟨G, hG⟩ : ∃ G, G = grownCap w (l0.length + 1) cap 103 := ⟨_, rfl⟩
   have hGn : l0.length + 1 ≤ G := by rw [hG]; exact grownCap_ge w _ _ _
   have hGm : G ≤ maxLen := by rw [hG]; exact grownCap_le_maxLen w (l0.length + 1) cap 103 (by unfold maxLen; omega)
   rw [← hG]
   obtain ⟨Z, hZ⟩ : ∃ Z : List Value, Z = (Builtin.zeroCells (Value.agg #[.string ⟨#[]⟩, .string ⟨#[]⟩]).cells (l0.length + 1 - i)).toList ++ (Builtin.zeroCells (Value.agg #[.string ⟨#[]⟩, .string ⟨#[]⟩]).cells (G - (l0.length + 1))).toList := ⟨_, rfl⟩
   have hZl : Z.length = (l0.length + 1 - i) * 2 + (G - (l0.length + 1)) * 2 := by
    rw [hZ, List.length_append, label_Pair.zeroCells_len', label_Pair.zeroCells_len']
   obtain ⟨ROW, hROW⟩ : ∃ ROW : Array Value, ROW = ((l0.flatMap label_Pair.enc).take (i * 2)).toArray ++ Builtin.zeroCells (Value.agg #[.string ⟨#[]⟩, .string ⟨#[]⟩]).cells (l0.length + 1 - i) ++ Builtin.zeroCells (Value.agg #[.string ⟨#[]⟩, .string ⟨#[]⟩]).cells (G - (l0.length + 1)) := ⟨_, rfl⟩
   have hRL : ROW.toList = (l0.flatMap label_Pair.enc).take (i * 2) ++ Z := by rw [hROW, hZ]; simp
   have hXl : ((l0.flatMap label_Pair.enc).take (i * 2)).length = i * 2 := by rw [List.length_take, hlen0]; omega
   have hDl : ((l0.flatMap label_Pair.enc).drop (i * 2)).length = (l0.length - i) * 2 := by rw [List.length_drop, hlen0]; omega
   have hRs : ROW.size = G * 2 := by rw [← Array.length_toList, hRL, List.length_append, hXl, hZl]; omega
   rw [← hROW]
   have hgA : ((w.alloc (.cells ROW 103)).drew).heap[w.heap.size]? = some (.cells ROW 103 (0, 0)) := heap_alloc_new w (.cells ROW 103)
   obtain ⟨k1, _, k3⟩ := label_Pair.setCells_two hgA (i * 2) ((i + 1) * 2) (l2.flatMap label_Pair.enc) ((l0.flatMap label_Pair.enc).drop (i * 2)) (by rw [hlen2, hRs]; omega) (by rw [hDl, hRs]; omega) (label_Pair.enc_one _) (fun v hv => label_Pair.enc_one l0 v (List.mem_of_mem_drop hv))
   have ht := label_Pair.seg_grown ((l0.flatMap label_Pair.enc).take (i * 2)) (l2.flatMap label_Pair.enc) ((l0.flatMap label_Pair.enc).drop (i * 2)) Z (by rw [hlen2, hDl, hZl]; omega)
   rw [hXl, hlen2, hDl, ← hRL] at ht
   refine ⟨_, rfl, label_Pair.R_made (.inr (Nat.le_refl _)) (by omega) k1 hL hGn hGm (by rw [k3, hRs]) ?_, ?_, ?_⟩
   ·rw [List.toList_toArray, hE, ← ht]
    congr 1
    ·omega
    ·congr 1
     omega
   ·exact label_Pair.below_setCells' hs0 _ _ (below_drew (label_Pair.below_setCells' hs0 _ _ (below_drew (below_alloc hB _))))
   ·exact label_Pair.kept_setCells (.inr (Nat.le_refl _)) _ _ (Kept.drew (label_Pair.kept_setCells (.inr (Nat.le_refl _)) _ _ (Kept.drew ((Kept.refl w _).alloc _))))
  ·refine (label_Pair.ins_shift g l0.length cap i g2 cap2 _ _ w hi hroom (by omega) hne hlen0 hlen2 hcell (fun j hj => ?_) (fun j => by simp [World.frozen?, hh]) hcell2 (label_Pair.enc_one _) (label_Pair.enc_one _) 103 103 cur2.size cur.size (by simp [World.shape?, hh2]) (by simp [World.shape?, hh]) (by omega) (fun j => by simp [World.frozen?, hh2])).mono ?_
   ·simp only [World.cell?, hh]
    have : j < cur.size := by omega
    simp [this]
   ·rintro e w' ⟨rfl, rfl⟩
    have hcl : cur.toList.length = cap * 2 := by rw [Array.length_toList, hcs]
    have hXl : (cur.toList.take (i * 2)).length = i * 2 := by rw [List.length_take, hcl]; omega
    have hYl : ((cur.toList.drop (i * 2)).take 2).length = 2 := by rw [List.length_take, List.length_drop, hcl]; omega
    have hDl : ((l0.flatMap label_Pair.enc).drop (i * 2)).length = (l0.length - i) * 2 := by rw [List.length_drop, hlen0]; omega
    have hX : cur.toList.take (i * 2) = (l0.flatMap label_Pair.enc).take (i * 2) := by rw [← hct, List.take_take, Nat.min_eq_left (by omega)]
    have hpart : cur.toList = cur.toList.take (i * 2) ++ (cur.toList.drop (i * 2)).take 2 ++ cur.toList.drop (i * 2 + 2) := by
     rw [List.append_assoc, ← List.drop_drop, List.take_append_drop, List.take_append_drop]
    have hgA : (w.drew).heap[g]? = some (.cells cur 103 (0, 0)) := hh
    obtain ⟨_, k2, k3⟩ := label_Pair.setCells_two hgA ((i + 1) * 2) (i * 2) ((l0.flatMap label_Pair.enc).drop (i * 2)) (l2.flatMap label_Pair.enc) (by rw [hDl, hcs]; omega) (by rw [hlen2, hcs]; omega) (fun v hv => label_Pair.enc_one l0 v (List.mem_of_mem_drop hv)) (label_Pair.enc_one _)
    have ht := label_Pair.seg_shift (cur.toList.take (i * 2)) ((cur.toList.drop (i * 2)).take 2) (l2.flatMap label_Pair.enc) ((l0.flatMap label_Pair.enc).drop (i * 2)) (cur.toList.drop (i * 2 + 2)) (by rw [hYl, hlen2]) (by rw [hDl, List.length_drop, hcl]; omega)
    rw [← hpart, hXl, hYl, hlen2, hDl, hX] at ht
    refine ⟨_, rfl, label_Pair.R_made (.inl (.inl p0)) hg k2 hL hroom hcap (by rw [k3, hcs]) ?_, ?_, ?_⟩
    ·rw [List.toList_toArray, hE, ← ht]
     congr 1
     ·omega
     ·congr 1
      congr 1
      omega
    ·exact label_Pair.below_setCells' hg _ _ (label_Pair.below_setCells' hg _ _ (below_drew hB))
    ·exact label_Pair.kept_setCells (.inl (.inl p0)) _ _ (label_Pair.kept_setCells (.inl (.inl p0)) _ _ (Kept.drew (Kept.refl w _)))
 ·have hin2 : i = l0.length := by omega
  subst hin2
  obtain ⟨A0, c0, rfl⟩ := Kd.R_slice ho0
  obtain ⟨A2, c2, rfl⟩ := Kd.R_slice ho2
  have hz1 : ¬ ((l2.length : Int) = 0) := by omega
  have hLM := Aside0.mk hc3
  have hL2 := Aside0.mk hc2
  have hBA := Aside0.mk hB
  have h0A := Aside0.mk ho0
  have h2A := Aside0.mk ho2
  clear hc2 hc3 hc0 hc1 hin hi hB ho0 ho2 hp0_2 hp2_0
  by_cases hce : c0 = l0.length
  ·subst hce
   exact label_Pair.lf
  ·skip
   exact label_Pair.lf
end

end Go.Proofs.Ytaehlbbjbeibfaa.X
