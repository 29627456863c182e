-- Laid by rows.py, a program of this session's: what EntryBack tells is true, where what it reads is of so great a bulk at most.
import Derived.Test.YtjmbddgbojcpmaaDoorRows
import Derived.Test.YtjmbddgbojcpmaaDoorK
import Derived.Test.YtjmbddgbojcpmaaDoorX17
import Derived.Test.YtjmbddgbojcpmaaDoorRwEntryBack
import Derived.Test.YtjmbddgbojcpmaaDoorPureEntryBack
import Derived.WalkKit
import Derived.ProofKit
import Derived.OpenShut
import Derived.ShutString
import Derived.ChangeOld
import Derived.Below
import Derived.SizedLaws
import Derived.JoinedCond
import Derived.Deep.DeepHandedRow
import Derived.Deep.DeepWitnessRowRef
import Derived.Lib.LaidIn
import Derived.Lib.LaidTab
import Derived.Stop.LaidErr
import Derived.Test.YtjmbddgbojcpmaaDoorCards
import Derived.Test.YtjmbddgbojcpmaaDoorTie
namespace Go.Proofs.YtjmbddgbojcpmaaDoor.entryBack
open Go.ChangeShapes Go.WideShapes Go.ChangeAt Go.RowKit
open Go.ChangeMaps (open_string shut_string)
open Go.Proofs.YtjmbddgbojcpmaaDoor.X Go.Proofs.YtjmbddgbojcpmaaDoor.B Go.Proofs.YtjmbddgbojcpmaaDoorW.PrintWords
set_option linter.unusedVariables false
set_option linter.unusedSimpArgs false
theorem own : ownKnob Tryd.prog.godebug = none := by kernel_rfl
theorem laidOut : laidOutB Tryd.prog = true := by kernel_rfl
set_option maxRecDepth 100000 in
/-- a world for the witness: the settled one, the listed variables holding what their initialisers lay -/
noncomputable def laidWorld (os : Os) : World :=
  let N_ := (World.settled Tryd.prog os).heap.size
  let w0 := World.holding Tryd.prog os ⟨#[.cells #[.string ⟨#[118, 97, 108, 117, 101, 32, 111, 117, 116, 32, 111, 102, 32, 114, 97, 110, 103, 101]⟩] 137, .cells #[.string ⟨#[105, 110, 118, 97, 108, 105, 100, 32, 115, 121, 110, 116, 97, 120]⟩] 137], #[], []⟩
  let put (h : Array Obj) (g : Nat) (cs : Array Value) : Array Obj := h.modify g fun
    | .cells _ t frozen => .cells cs t frozen
    | o => o
  let h0 := put (w0.heap) 4 #[.int .u8 0, .int .u8 1, .int .u8 28, .int .u8 2, .int .u8 29, .int .u8 14, .int .u8 24, .int .u8 3, .int .u8 30, .int .u8 22, .int .u8 20, .int .u8 15, .int .u8 25, .int .u8 17, .int .u8 4, .int .u8 8, .int .u8 31, .int .u8 27, .int .u8 13, .int .u8 23, .int .u8 21, .int .u8 19, .int .u8 16, .int .u8 7, .int .u8 26, .int .u8 12, .int .u8 18, .int .u8 6, .int .u8 11, .int .u8 5, .int .u8 10, .int .u8 9]
  let h1 := put (h0) 5 #[.int .u8 0, .int .u8 1, .int .u8 56, .int .u8 2, .int .u8 57, .int .u8 49, .int .u8 28, .int .u8 3, .int .u8 61, .int .u8 58, .int .u8 42, .int .u8 50, .int .u8 38, .int .u8 29, .int .u8 17, .int .u8 4, .int .u8 62, .int .u8 47, .int .u8 59, .int .u8 36, .int .u8 45, .int .u8 43, .int .u8 51, .int .u8 22, .int .u8 53, .int .u8 39, .int .u8 33, .int .u8 30, .int .u8 24, .int .u8 18, .int .u8 12, .int .u8 5, .int .u8 63, .int .u8 55, .int .u8 48, .int .u8 27, .int .u8 60, .int .u8 41, .int .u8 37, .int .u8 16, .int .u8 46, .int .u8 35, .int .u8 44, .int .u8 21, .int .u8 52, .int .u8 32, .int .u8 23, .int .u8 11, .int .u8 54, .int .u8 26, .int .u8 40, .int .u8 15, .int .u8 34, .int .u8 20, .int .u8 31, .int .u8 10, .int .u8 25, .int .u8 14, .int .u8 19, .int .u8 9, .int .u8 13, .int .u8 8, .int .u8 7, .int .u8 6]
  let h2 := put (h1) 1 #[.int .u64 1, .int .u64 10, .int .u64 100, .int .u64 1000, .int .u64 10000, .int .u64 100000, .int .u64 1000000, .int .u64 10000000, .int .u64 100000000, .int .u64 1000000000, .int .u64 10000000000, .int .u64 100000000000, .int .u64 1000000000000, .int .u64 10000000000000, .int .u64 100000000000000, .int .u64 1000000000000000, .int .u64 10000000000000000, .int .u64 100000000000000000, .int .u64 1000000000000000000, .int .u64 10000000000000000000]
  let h3 := put (h2) 3 #[.iface 135 (.pointer (some ⟨N_ + 0, 0, none⟩))]
  let h4 := put (h3) 2 #[.iface 135 (.pointer (some ⟨N_ + 1, 0, none⟩))]
  { w0 with heap := h4 }
noncomputable abbrev N0 : Nat := (World.settled Tryd.prog default).heap.size
set_option maxRecDepth 1000000 in
theorem laid_met (os : Os) (args : Array Value) : laidMet Tryd.prog Rows.entryBackUptoRow.laid ((laidWorld os).forCall (fun _ _ => 0) ⟨#[], args, []⟩).memory :=
  (LaidIn.of_run (l := [("math/bits.deBruijn32tab", Rows.laid_math_bits_deBruijn32tab), ("math/bits.deBruijn64tab", Rows.laid_math_bits_deBruijn64tab), ("internal/strconv.uint64pow10", Rows.laid_internal_strconv_uint64pow10), ("strconv.ErrRange", Rows.laid_strconv_ErrRange), ("strconv.ErrSyntax", Rows.laid_strconv_ErrSyntax)]) [4, 5, 1, 3, 2, N0 + 0, N0 + 1] 10 (by kernel_rfl) (by kernel_rfl) (by kernel_rfl) (by kernel_rfl)).met
theorem star : "*" ++ "errors.errorString" = "*errors.errorString" := by decide
theorem rowE (u : TypeId) (h : Tryd.prog.typeName? 3 u = some "*errors.errorString") : u = 135 :=
  typeName_ptr_named (nm := "errors.errorString") (by rw [star]; kernel_rfl) (by kernel_rfl) (by decide) u (by rw [star]; exact h)
theorem laid_err {n : String} {text : List UInt8} {r : List (String × DataW Unit)} {W : World} {g : Nat} (hg : Tryd.prog.globalNamed n = some g) (ht : (Tryd.prog.globals[g]?).map (·.type) = some 80) (h : laidMet Tryd.prog ((n, .iface "*errors.errorString" (.ptr (.agg [.lit (.string text)]))) :: r) W) :
    ∃ ev, W.cell? ⟨g, 0, none⟩ = some ev ∧ (ev = .nilIface ∨ ∃ te pe, ev = .iface te pe) := by
  obtain ⟨a, s, hv, _⟩ := laid_sentinel (ti := 80) (tp := 135) (te := 137) (ts := 9) h hg ht Tryd.underlying80 rowE Tryd.underlying135 Tryd.underlying137 rfl rfl Tryd.underlying9 (by kernel_rfl) (by kernel_rfl)
  exact ⟨_, by simpa using World.var?_cell hg hv 0, .inr ⟨_, _, rfl⟩⟩
theorem star_ (W : World) (hL : laidMetH Tryd.prog Rows.entryBackUptoRow.laid W) : Laid W := by
  have L0 : laidMet Tryd.prog Rows.entryBackUptoRow.laid W := hL
  refine ⟨Lib.tabIs_of_head (n := 20) (e := 108) (t := 124) (k := .u64) (g := 1) (by kernel_rfl) (by kernel_rfl) (by kernel_rfl) (by kernel_rfl) (by kernel_rfl) (by kernel_rfl) L0.tail.tail, ?_, ?_⟩
  · obtain ⟨ev, h1, h2⟩ := laid_err (g := 2) (by kernel_rfl) (by kernel_rfl) L0.tail.tail.tail.tail
    exact ⟨ev, h1, h2⟩
  · obtain ⟨ev, h1, h2⟩ := laid_err (g := 3) (by kernel_rfl) (by kernel_rfl) L0.tail.tail.tail
    exact ⟨ev, h1, h2⟩
set_option maxRecDepth 100000 in
theorem witness_row (os : Os) {H : Type} (enc : TypeId × Value → H) :
    (Rows.OpenSpec.upto Rows.entryBackSpec).preRow enc Tryd.prog Tryd.f3 Rows.entryBackUptoRow.domain false Rows.entryBackUptoRow.laid ((laidWorld os).forCall (fun _ _ => 0) ⟨#[], #[.agg #[.int .i64 0, .slice none 0 0, .string ByteArray.empty, .bool false, .int .i8 0, .slice none 0 0, .int .u8 0], .agg #[.int .i64 0, .slice none 0 0, .string ByteArray.empty, .bool false, .int .i8 0, .slice none 0 0, .int .u8 0], .string ByteArray.empty, .int .u16 0], []⟩).memory #[.agg #[.int .i64 0, .slice none 0 0, .string ByteArray.empty, .bool false, .int .i8 0, .slice none 0 0, .int .u8 0], .agg #[.int .i64 0, .slice none 0 0, .string ByteArray.empty, .bool false, .int .i8 0, .slice none 0 0, .int .u8 0], .string ByteArray.empty, .int .u16 0] := by
  have hw : (DataW.whole enc Tryd.prog ((laidWorld os).forCall (fun _ _ => 0) ⟨#[], #[.agg #[.int .i64 0, .slice none 0 0, .string ByteArray.empty, .bool false, .int .i8 0, .slice none 0 0, .int .u8 0], .agg #[.int .i64 0, .slice none 0 0, .string ByteArray.empty, .bool false, .int .i8 0, .slice none 0 0, .int .u8 0], .string ByteArray.empty, .int .u16 0], []⟩).memory Tryd.f3.params.toList Rows.entryBackSpec.vars false (#[.agg #[.int .i64 0, .slice none 0 0, .string ByteArray.empty, .bool false, .int .i8 0, .slice none 0 0, .int .u8 0], .agg #[.int .i64 0, .slice none 0 0, .string ByteArray.empty, .bool false, .int .i8 0, .slice none 0 0, .int .u8 0], .string ByteArray.empty, .int .u16 0] : Array Value).toList 8).map (fun x => (x.1, x.2.1)) =
      some ([.agg [.agg [.lit (.int .i64 0), .nil, .lit (.string [])], .lit (.bool false), .lit (.int .i8 0), .nil, .lit (.int .u8 0)], .agg [.agg [.lit (.int .i64 0), .nil, .lit (.string [])], .lit (.bool false), .lit (.int .i8 0), .nil, .lit (.int .u8 0)], .lit (.string []), .lit (.int .u16 0)], []) := by kernel_rfl
  obtain ⟨⟨x1, x2, x3⟩, hx, hx1⟩ := Option.map_eq_some_iff.1 hw
  simp only [Prod.mk.injEq] at hx1
  obtain ⟨rfl, rfl⟩ := hx1
  exact OpenSpec.preRow_of_cond 8 hx (by kernel_rfl) (fun k hk => by cases hk; kernel_rfl) (by kernel_rfl) (laid_met os _)
set_option maxRecDepth 100000 in
theorem lifted (os : Os) (started : os.Started) (H : Type) (enc : TypeId × Value → H) (F : Stop.Interp) :
    ReturnsInHanded {} Tryd.checked os 3 .any ((Rows.OpenSpec.upto Rows.entryBackSpec).preRow enc Tryd.prog Tryd.f3 Rows.entryBackUptoRow.domain false Rows.entryBackUptoRow.laid) (((Rows.OpenSpec.upto Rows.entryBackSpec).at F).post enc Tryd.prog Tryd.f3 false true false false) := by
  refine returnsInHanded_of_row (C := Tryd.checked) (s := (Rows.OpenSpec.upto Rows.entryBackSpec)) own started (by kernel_rfl) Tryd.func3
    (witness_row_atRef (enc := enc) (C := Tryd.checked) false (laidWorld os) #[.agg #[.int .i64 0, .slice none 0 0, .string ByteArray.empty, .bool false, .int .i8 0, .slice none 0 0, .int .u8 0], .agg #[.int .i64 0, .slice none 0 0, .string ByteArray.empty, .bool false, .int .i8 0, .slice none 0 0, .int .u8 0], .string ByteArray.empty, .int .u16 0] rfl (by kernel_rfl) (by kernel_rfl) (by kernel_rfl) (witness_row os enc)) ?_
  intro W base args ds gs before hval0 hW _ hk0 hsz0 hL _ _
  have hk : Rows.uptoSmall H (ds ++ gs) = true := hk0 _ rfl
  have hval : ∀ (j : Nat) t v, Tryd.f3.params[j]? = some t → args[j]? = some v → Value.okWide Tryd.prog W .any base t v := hval0
  have hW' := hW
  obtain ⟨p, q, hA0, hV, rfl, hfz, hnd⟩ := hW
  have hA : DataW.TrodAll enc Tryd.prog W 0 (fun _ => true) true Tryd.f3.params.toList args.toList ds p := hA0
  rw [Tryd.params3] at hA hval
  obtain ⟨v0, vs0, d0, ds0, p0, q0, hargs, rfl, rfl, h0, r0⟩ := trodAll_cons hA
  obtain ⟨v1, vs1, d1, ds1, p1, q1, rfl, rfl, rfl, h1, r1⟩ := trodAll_cons r0
  obtain ⟨v2, vs2, d2, ds2, p2, q2, rfl, rfl, rfl, h2, r2⟩ := trodAll_cons r1
  obtain ⟨v3, vs3, d3, ds3, p3, q3, rfl, rfl, rfl, h3, r3⟩ := trodAll_cons r2
  obtain ⟨rfl, rfl, rfl⟩ := trodAll_nil r3
  obtain rfl : args = #[v0, v1, v2, v3] := by cases args; simp_all
  obtain ⟨rfl, rfl⟩ := trodVars_none hV
  obtain ⟨b0, rfl, sz0⟩ := okWide_struct Tryd.underlying29 (hval 0 29 v0 rfl rfl)
  have k0 := h0
  have lt0 : ∀ x ∈ p0, x.block < W.heap.size := by obtain ⟨m, hm⟩ := k0; exact DataW.trod_lt m _ _ _ hm
  obtain ⟨fuel0, hf0⟩ := h0
  obtain ⟨a0, hK0, hg0, hm0, hT0⟩ := op29.down hf0
  obtain ⟨A0_1, c0_1, A0_5, c0_5, e0, hc0_1, hr0_1, hc0_5, hr0_5⟩ := k29_open hK0
  obtain rfl : b0 = #[.int .i64 a0.f0.f0, .slice A0_1 a0.f0.f1.length c0_1, .string a0.f0.f2, .bool a0.f1, .int .i8 a0.f2, .slice A0_5 a0.f3.length c0_5, .int .u8 a0.f4] := by simpa [Value.cells] using congrArg List.toArray e0
  obtain ⟨b1, rfl, sz1⟩ := okWide_struct Tryd.underlying29 (hval 1 29 v1 rfl rfl)
  have k1 := h1
  have lt1 : ∀ x ∈ p1, x.block < W.heap.size := by obtain ⟨m, hm⟩ := k1; exact DataW.trod_lt m _ _ _ hm
  obtain ⟨fuel1, hf1⟩ := h1
  obtain ⟨a1, hK1, hg1, hm1, hT1⟩ := op29.down hf1
  obtain ⟨A1_1, c1_1, A1_5, c1_5, e1, hc1_1, hr1_1, hc1_5, hr1_5⟩ := k29_open hK1
  obtain rfl : b1 = #[.int .i64 a1.f0.f0, .slice A1_1 a1.f0.f1.length c1_1, .string a1.f0.f2, .bool a1.f1, .int .i8 a1.f2, .slice A1_5 a1.f3.length c1_5, .int .u8 a1.f4] := by simpa [Value.cells] using congrArg List.toArray e1
  obtain ⟨a2, rfl, rfl, rfl, y2⟩ := open_string Tryd.underlying9 (hval 2 9 v2 rfl rfl) h2
  have e2 : a2.data.toList.length = a2.size := data_length a2
  obtain ⟨a3, rfl, rfl, rfl, w3⟩ := open_int Tryd.underlying30 (hval 3 30 v3 rfl rfl) h3
  have hs : (m29 a0) + (m29 a1) + (a2.size + 1) + 1 ≤ 1048576 := by
    have hb := of_decide_eq_true hk
    simp only [List.append_nil, List.cons_append, List.nil_append, Rows.uptoBulkAll, Rows.uptoBulk] at hb
    have :(m29 a0) ≤ Rows.uptoBulk d0 := hm0
    have :(m29 a1) ≤ Rows.uptoBulk d1 := hm1
    have := e2
    omega
  clear hA0 hval0
  obtain ⟨k, hk_⟩ := Pure.EntryBack a0 a1 a2 a3 hg0 hg1 w3 hs
  refine (X.archivistlaw13_EntryBack.calls k a0.f0.f0 _ _ a0.f0.f1 a0.f0.f2 a0.f1 a0.f2 _ _ a0.f3 a0.f4 a1.f0.f0 _ _ a1.f0.f1 a1.f0.f2 a1.f1 a1.f2 _ _ a1.f3 a1.f4 a2 a3 true W hr0_1 hc0_1 hr0_5 hc0_5 hr1_1 hc1_1 hr1_5 hc1_5 hk_ (star_ W hL)).mono fun e W' ⟨he, bel⟩ => ?_
  subst he
  exact ⟨_, rfl, _, _, _, [], _, [], hW', trodAll_mk1 (shut_bool Tryd.underlying4 _), (trodAll_cons_mk (Below.trod laidOut (by kernel_rfl) (of_decide_eq_true (by kernel_rfl)) k0 bel lt0) (trodAll_cons_mk (Below.trod laidOut (by kernel_rfl) (of_decide_eq_true (by kernel_rfl)) k1 bel lt1) (trodAll_cons_mk (shut_string Tryd.underlying9 y2) (trodAll_cons_mk (shut_int Tryd.underlying30 w3) trodAll_mk0)))), rfl, bel.frame _, fun h => by cases h⟩
theorem over : Rows.entryBackUptoRow.holds Tryd.pinned (Rows.OpenSpec.upto Rows.entryBackSpec) :=
  OpenClaim.holds_of_cond 3 Tryd.f3 rfl rfl rfl rfl rfl rfl rfl ⟨rfl, rfl, rfl, rfl, rfl⟩ rfl rfl rfl rfl rfl (by kernel_rfl) Tryd.func3 (by kernel_rfl)
    (of_decide_eq_true (by kernel_rfl)) (by unfold Func.isWrapper; first | (rw [if_pos (by decide +kernel)]; kernel_rfl) | (rw [if_neg (by decide +kernel)]; exact ⟨rfl, rfl⟩))
    (fun os started H enc _ F => by rw [OpenClaim.pre_eq_preRow]; exact lifted os started H enc F)
theorem said : Rows.EntryBackUptoSaid := over
theorem plain (f : FuncId) (fn : Func) (hf : Tryd.pinned.checked.prog.funcNamed "archivist/archivistlaw13.EntryBack" = some f) (hfn : Tryd.pinned.checked.prog.funcs[f]? = some fn) :
    true = Tryd.pinned.checked.prog.looks [] ∧ ∀ (j : Nat) t, fn.params[j]? = some t → Tryd.pinned.checked.prog.wantsStandIn t = false := by
  obtain rfl : f = 3 := Option.some.inj ((show Tryd.prog.funcNamed "archivist/archivistlaw13.EntryBack" = some 3 by kernel_rfl).symm.trans hf) |>.symm
  obtain rfl : fn = Tryd.f3 := (Option.some.inj (Tryd.func3.symm.trans hfn)).symm
  refine ⟨by kernel_rfl, fun j t ht => ?_⟩
  rw [Tryd.params3] at ht
  have hm := Array.mem_of_getElem? ht
  have ha : ∀ t ∈ (#[29, 29, 9, 30] : Array TypeId), Tryd.prog.wantsStandIn t = false := by
    intro t ht
    simp only [List.mem_toArray, List.mem_cons, List.not_mem_nil, or_false] at ht
    rcases ht with rfl | rfl | rfl | rfl
    all_goals kernel_rfl
  exact ha t hm
/-- the card -/
theorem proved : Rows.EntryBackUptoCardSaid :=
  Claim7.holds_tied_plain_at .later [] [.data, .data, .data, .sentinel, .sentinel] true (true, "a011703587987b962077e1c636a8257153e2280ab279d8285a24f2db0258bd69") true said (fun _ h => by cases h) (by kernel_rfl) (fun _ h => by cases h) entryBackUpto_row_tie rfl ⟨rfl, rfl⟩ (by kernel_rfl) rfl plain (by kernel_rfl)
#print axioms proved
end Go.Proofs.YtjmbddgbojcpmaaDoor.entryBack
namespace Go.Proofs.YtjmbddgbojcpmaaDoor
/-- The row, under a short name, for the claim. -/
theorem entryBackUpto_holds : Rows.EntryBackUptoCardSaid := entryBack.proved
end Go.Proofs.YtjmbddgbojcpmaaDoor
