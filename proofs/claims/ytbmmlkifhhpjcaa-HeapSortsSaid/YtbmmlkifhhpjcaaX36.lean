/- New of a heap (instance two). -/
import Derived.Test.YtbmmlkifhhpjcaaX35
namespace Go.Proofs.Ytbmmlkifhhpjcaa.X
open Go.RowKit Go.Proofs.YtbmmlkifhhpjcaaW.PrintWords Go.Proofs.YtbmmlkifhhpjcaaW.PrintLast Go.Proofs.YtbmmlkifhhpjcaaW.PrintMore
attribute [local go_sem] max2_int min2_int max_two min_two max_three min_three max_four min_four
set_option linter.unusedVariables false
set_option linter.unusedSimpArgs false

open Go.Proofs.Ytbmmlkifhhpjcaa
set_option maxHeartbeats 1000000 in
set_option maxRecDepth 1000000 in
theorem new96_calls (W : World) (A : Option Addr) (c : Nat) (xs : List S48) (hC : Kd.C k48 W A xs.length xs) (hl : xs.length < 1099511627776) :
    Calls Try.prog 18 #[.func (.func 19) #[] #[], .slice A xs.length c] W fun e w' => e = .returned (.pointer (some ⟨W.heap.size, 0, none⟩)) ∧ ∃ row', HS96 w' W.heap.size W.heap.size row' (pushL ah96 mk96 [] 0 xs) xs.length ∧ Below W.heap.size W w' := by
  have hb := blk_new W (.cells #[.slice none 0 0, .func (.func 19) #[] #[], .int .i64 0] 58)
  have HB := Aside0.mk (below_alloc (Below.refl W.heap.size W) (.cells #[.slice none 0 0, .func (.func 19) #[] #[], .int .i64 0] 58))
  have HS : Aside0 (HS96 (W.alloc (.cells #[.slice none 0 0, .func (.func 19) #[] #[], .int .i64 0] 58)) W.heap.size W.heap.size none [] 0) := ⟨_, rfl, hb, Kd.R_nil _ _ _ _ _, Nat.le_refl _⟩
  have HP := Aside0.mk (push96_calls _ W.heap.size W.heap.size none [] 0 A c xs HS.out (C_keepB (fun h => h) (Kd.C_below hC HB.out) (C_ltB hC (by decide) (Nat.le_refl _) (fun k hk => by cases hk))) (by omega) (by rw [Int.zero_add]; omega) (by rw [List.length_nil, Nat.zero_add]; exact hl) Hp.nil)
  clear hb hC HS
  go_enter Try.func18, Try.ntmps18
  go_wp2_with (go_at_call 20; (with_reducible refine HP.out.mono ?_); rintro e w1 ⟨rfl, row1, hS1, hT1⟩; have HS1 := Aside0.mk hS1; have HT1 := Aside0.mk hT1; clear hS1 hT1)
  go_ret
  exact ⟨rfl, row1, by have := HS1.out; rwa [Int.zero_add] at this, HB.out.trans HT1.out.below⟩
end Go.Proofs.Ytbmmlkifhhpjcaa.X
