-- Laid by xprint.py, a program of this session's, out of the translation.
import Derived.Test.YtifcnblgpnfehaaProg
import Derived.Below
import Derived.Deep.Draws
import Derived.Deep.AppendLies
import Derived.Maps.AppendAt
import Derived.OwnWalk
import Derived.Laws.BytesArg
import Derived.Laws.MakeOwn
import Derived.Laws.OwnMore
import Derived.Deep.OwnRows
import Derived.Tactics
import Derived.Lib.ConvBytes
import Derived.Laws.Slices
import Derived.WalkKit
import Derived.KernelRfl
import Derived.RowKit3
import Derived.Deep.LoopGhost
import Derived.Deep.QuietTactic
import Derived.BigQuiet
import Derived.WideLaws
import Derived.Deep.DeepCutAuto
import Derived.Deep.CutBlock
import Derived.Deep.RegionHeld3
import Derived.Laws.Rows
import Derived.Lib.AppendStr
import Derived.ArgAppend
import Derived.Laws.IdiomCopy
import Derived.OrdersHeld
import Derived.Laws.BitsLemmas
import Derived.RowKit
import Derived.Test.YtifcnblgpnfehaaWWords
import Derived.Test.YtifcnblgpnfehaaWLast
import Derived.Test.YtifcnblgpnfehaaWTab
import Derived.Test.YtifcnblgpnfehaaWFour
import Derived.Test.YtifcnblgpnfehaaWQPut
import Derived.Test.YtifcnblgpnfehaaWApart
import Derived.Test.YtifcnblgpnfehaaWArr
import Derived.Test.YtifcnblgpnfehaaWZeros
import Derived.Test.YtifcnblgpnfehaaWFoot
import Derived.Test.YtifcnblgpnfehaaWKept
import Derived.Test.YtifcnblgpnfehaaWShare
import Derived.Test.YtifcnblgpnfehaaWN
import Derived.Test.YtifcnblgpnfehaaWFootNe
import Derived.Test.YtifcnblgpnfehaaWAt
import Derived.Test.YtifcnblgpnfehaaWEqStruct
import Derived.Test.YtifcnblgpnfehaaWRepsOne
import Derived.Test.YtifcnblgpnfehaaWInv
import Derived.Test.YtifcnblgpnfehaaWInvWords
import Derived.Test.YtifcnblgpnfehaaWGuard
import Derived.Test.YtifcnblgpnfehaaWNEv
import Derived.Test.YtifcnblgpnfehaaWMore
namespace Go.Proofs.Ytifcnblgpnfehaa.X
open Go.RowKit Go.Proofs.YtifcnblgpnfehaaW.PrintWords Go.Proofs.YtifcnblgpnfehaaW.PrintLast Go.Proofs.YtifcnblgpnfehaaW.PrintMore
attribute [local go_sem] max2_int min2_int max_two min_two max_three min_three max_four min_four   -- for this text's walks alone
set_option linter.unusedVariables false
set_option linter.unusedSimpArgs false

theorem x_toList_loop (s : ByteArray) : ∀ (d i : Nat) (acc : List UInt8), s.size - i = d → ByteArray.toList.loop s i acc = acc.reverse ++ s.data.toList.drop i
  | 0, i, acc, h => by
    unfold ByteArray.toList.loop
    rw [if_neg (by omega), List.drop_of_length_le (by rw [data_length]; omega), List.append_nil]
  | d + 1, i, acc, h => by
    unfold ByteArray.toList.loop
    have hi : i < s.data.toList.length := by rw [data_length]; omega
    rw [if_pos (by omega), x_toList_loop s d (i + 1) _ (by omega), List.drop_eq_getElem_cons hi]
    have e : s.get! i = s.data.toList[i] := by
      have h1 : i < s.data.size := by simpa using hi
      show s.data[i]! = _
      rw [getElem!_pos s.data i h1]
      simp
    rw [e]
    simp
theorem x_toList (s : ByteArray) : s.toList = s.data.toList := by
  unfold ByteArray.toList
  rw [x_toList_loop s s.size 0 [] (by omega)]
  rfl
/-- A cell that is there is there behind a store, too. -/
theorem x_isSome (w : World) (a b : Addr) (v : Value) : ((w.setCell a v).cell? b).isSome = (w.cell? b).isSome := by
  by_cases h : a = b
  · subst h
    cases hc : w.cell? a with
    | some u => rw [World.cell?_setCell_same _ _ _ hc]; rfl
    | none =>
      simp only [World.setCell, World.cell?, Array.getElem?_modify] at hc ⊢
      cases hh : w.heap[a.block]? with
      | none => simp
      | some o =>
        rw [hh] at hc
        cases o with
        | cells c e f => simp only [↓reduceIte, Option.map_some] at hc ⊢; split at hc <;> simp_all
        | _ => simp
  · rw [World.cell?_setCell_other _ _ _ _ h]
section
variable {P : Program} {ops : Array Oper} {rest : List Oper} {o : Oper} {a : Act} {Q : Exit → Act → World → Prop}
/-- '[]byte(s)': a row that is only read (it bears the mark of a conversion's row). -/
theorem x_conv {w0 W : World} (base e : Nat) (hgd : o.guard = none) {N : Tmp} (_hN : o.dst = some N) (src dst : TypeId) {u : TypeDesc} (hs : P.underlying src = some u) (hd : P.underlying dst = some (.slice e)) (he : P.underlying e = some (.int .u8))
    (s : ByteArray) (hrun : (execOp a.eval o).run P W = ((convert src dst (.string s)).run P W).andThen fun v w' => .ok (.value v) w')
    (hsz : s.size ≤ 9223372036854775807) (HB : Below base w0 W) (hbase : base ≤ W.heap.size)
    (h : ∀ v1 w1, Kd.V (Kd.int .u8) e w1 base (fun k_ => W.heap.size ≤ k_) v1 (bytesOf s) → Below base w0 w1 → W.grownBy w1 none → True → wpList P ops Q rest (a.put o.dst v1) w1) : wpList P ops Q (o :: rest) a W := by
  rw [print_bytes src dst e hs hd he s W] at hrun
  refine Kd.event_run hgd hrun (h _ _ ?_ (bytes_below HB hbase e s) (grown_of_below (bytes_below (Below.refl _ _) (Nat.le_refl _) e s) none) trivial)
  have hcap : s.size ≤ grownCap W s.size 0 e := by
    exact grownCap_ge W s.size 0 e
  rw [← bytesOf_length s]
  refine ⟨_, _, rfl, by rw [bytesOf_length]; exact hcap, fun W' hW => ?_⟩
  have hb : W'.heap[W.heap.size]? = (Lib.bytesWorld W e s).heap[W.heap.size]? := hW _ (Nat.le_refl _) (by rw [Lib.bytesWorld_size]; omega)
  refine Kd.C_of_reads (d := (0 : Int)) (h1 := fun _ => rfl) ?_
  obtain ⟨_, _, h3⟩ := bytes_reads W e s hsz
  refine ⟨rfl, by rw [bytesOf_length]; exact hsz, fun hn => ?_⟩
  obtain ⟨ad, e', hc⟩ := h3 (by rw [bytesOf_length] at hn; exact hn)
  injection e' with e'
  subst e'
  refine ⟨_, rfl, fun j hj => ?_⟩
  rw [bytesOf_length] at hj
  rw [← hc j hj, add_plain]
  simp only [World.cell?]
  rw [hb]
theorem x_store_step {E : Prop} {Kc : Act → World → Prop} {W w1 : World} (hw : Region.wanted o (yielded ops a.tmps) = true) (hN : o.dst = none) (hrun : (execOp a.eval o).run P W = .ok .skip w1) (h : Kc a w1) : if Region.wanted o (yielded ops a.tmps) = true then Oper.wp P o a W Kc Q else E := by
  rw [if_pos hw]
  unfold Oper.wp
  rw [hrun]
  show Kc (a.put o.dst undef) w1
  rw [hN]
  exact h
end

end Go.Proofs.Ytifcnblgpnfehaa.X
