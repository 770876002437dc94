/- A nil disk's answers; DiskNone. -/
import Derived.Test.YtmmiipnmimjojaaL1
namespace Go.Proofs.Ytmmiipnmimjojaa.PS
open Go.RowKit Go.Proofs.YtmmiipnmimjojaaW.PrintWords Go.Proofs.YtmmiipnmimjojaaW.PrintLast Go.Proofs.YtmmiipnmimjojaaW.PrintMore
open Go.Maps Go.Proofs.Ytmmiipnmimjojaa.PD
set_option linter.unusedVariables false
set_option linter.unusedSimpArgs false
set_option maxRecDepth 100000 in
theorem none_write {W : World} {s : ByteArray} {at_ : Int} {v : Value} : Calls Try.prog 20 #[.pointer none, .string s, .int .i64 at_, v] W fun e w' => e = .returned (.int .i64 1) ∧ Below W.heap.size W w' := by
  go_enter Try.func20, Try.ntmps20
  go_wp2
  go_ret
  exact ⟨rfl, Below.refl _ _⟩
set_option maxRecDepth 100000 in
theorem none_sync {W : World} {s : ByteArray} : Calls Try.prog 21 #[.pointer none, .string s] W fun e w' => e = .returned (.int .i64 1) ∧ Below W.heap.size W w' := by
  go_enter Try.func21, Try.ntmps21
  go_wp2_with fail
  refine nil_sync.mono ?_
  rintro e w' ⟨rfl, rfl⟩
  go_wp2
  go_ret
  exact ⟨rfl, Below.refl _ _⟩
set_option maxRecDepth 100000 in
theorem none_cut {W : World} {s : ByteArray} {z : Int} : Calls Try.prog 35 #[.pointer none, .string s, .int .i64 z] W fun e w' => e = .returned (.int .i64 1) ∧ Below W.heap.size W w' := by
  have hb := below_alloc (Below.refl W.heap.size W) (.cells #[.int .i64 z] 3 (0, 0))
  go_enter Try.func35, Try.ntmps35
  go_wp2_with fail
  refine nil_cut.mono ?_
  rintro e w' ⟨rfl, rfl⟩
  go_wp2
  go_ret
  exact ⟨rfl, hb⟩
set_option maxRecDepth 100000 in
theorem none_rename {W : World} {s t : ByteArray} : Calls Try.prog 31 #[.pointer none, .string s, .string t] W fun e w' => e = .returned (.int .i64 1) ∧ Below W.heap.size W w' := by
  have hb1 := below_alloc (Below.refl W.heap.size W) (.cells #[.pointer none] 25 (0, 0))
  have hb2 := below_alloc hb1 (.cells #[.string s] 9 (0, 0))
  have hb3 := below_alloc hb2 (.cells #[.string t] 9 (0, 0))
  go_enter Try.func31, Try.ntmps31
  go_wp2_with fail
  refine nil_rename.mono ?_
  rintro e w' ⟨rfl, rfl⟩
  go_wp2
  go_ret
  exact ⟨rfl, hb3⟩
set_option maxRecDepth 100000 in
theorem none_remove {W : World} {s : ByteArray} : Calls Try.prog 34 #[.pointer none, .string s] W fun e w' => e = .returned (.int .i64 1) ∧ Below W.heap.size W w' := by
  have hb1 := below_alloc (Below.refl W.heap.size W) (.cells #[.pointer none] 25 (0, 0))
  have hb2 := below_alloc hb1 (.cells #[.string s] 9 (0, 0))
  go_enter Try.func34, Try.ntmps34
  go_wp2_with fail
  refine nil_remove.mono ?_
  rintro e w' ⟨rfl, rfl⟩
  go_wp2
  go_ret
  exact ⟨rfl, hb2⟩
set_option maxRecDepth 100000 in
theorem none_used {W : World} : Calls Try.prog 45 #[.pointer none] W fun e w' => e = .returned (.int .i64 0) ∧ Below W.heap.size W w' := by
  go_enter Try.func45, Try.ntmps45
  go_wp2
  go_ret
  exact ⟨rfl, Below.refl _ _⟩
set_option maxRecDepth 100000 in
theorem none_names {W : World} : Calls Try.prog 25 #[.pointer none] W fun e w' => e = .returned (.slice none 0 0) ∧ Below W.heap.size W w' := by
  go_enter Try.func25, Try.ntmps25
  go_wp2
  go_ret
  exact ⟨rfl, Below.refl _ _⟩
set_option maxRecDepth 100000 in
theorem none_fork {W : World} : Calls Try.prog 43 #[.pointer none] W fun e w' => e = .returned (.pointer none) ∧ Below W.heap.size W w' := by
  go_enter Try.func43, Try.ntmps43
  go_wp2
  go_ret
  exact ⟨rfl, Below.refl _ _⟩
set_option maxRecDepth 100000 in
theorem none_crash {W : World} {v : Value} : Calls Try.prog 22 #[.pointer none, v] W fun e w' => e = .returned (.tuple #[]) ∧ Below W.heap.size W w' := by
  go_enter Try.func22, Try.ntmps22
  go_wp2_with fail
  refine none_names.mono ?_
  rintro e w' ⟨rfl, hb⟩
  go_wp2_with fail
  go_loopg [13] 0 (fun kq v13 w' => v13 = .int .i64 0 ∧ Aside0 (Below W.heap.size W w'))
  case atStart => exact ⟨rfl, ⟨hb⟩⟩
  case round =>
    obtain ⟨rfl, hb⟩ := hrel
    go_wp2
    go_end0
    exact ⟨rfl, hb.out⟩
set_option maxRecDepth 100000 in
theorem none_read {W : World} {s : ByteArray} : Calls Try.prog 23 #[.pointer none, .string s] W fun e w' => e = .returned (.tuple #[.slice none 0 0, .int .i64 1]) ∧ Below W.heap.size W w' := by
  have hnew := blk_new W (.cells #[.slice none 0 0] 22 (0, 0))
  have hc := blk_cell hnew 0
  have hb := below_alloc (Below.refl W.heap.size W) (.cells #[.slice none 0 0] 22 (0, 0))
  go_enter Try.func23, Try.ntmps23
  go_wp2_with fail
  refine nil_read.mono ?_
  rintro e w' ⟨rfl, rfl⟩
  go_wp2
  exact bodyPost_ret (v := .tuple #[.slice none 0 0, .int .i64 1]) (by simp [results, Try.results23, go_sem]) rfl ⟨rfl, hb⟩
set_option maxRecDepth 100000 in
theorem none_sure {W : World} {s : ByteArray} : Calls Try.prog 40 #[.pointer none, .string s] W fun e w' => e = .returned (.tuple #[.slice none 0 0, .int .i64 1]) ∧ Below W.heap.size W w' := by
  have hnew := blk_new W (.cells #[.slice none 0 0] 22 (0, 0))
  have hc := blk_cell hnew 0
  have hb := below_alloc (Below.refl W.heap.size W) (.cells #[.slice none 0 0] 22 (0, 0))
  go_enter Try.func40, Try.ntmps40
  go_wp2_with fail
  refine nil_sure.mono ?_
  rintro e w' ⟨rfl, rfl⟩
  go_wp2
  exact bodyPost_ret (v := .tuple #[.slice none 0 0, .int .i64 1]) (by simp [results, Try.results40, go_sem]) rfl ⟨rfl, hb⟩
set_option maxHeartbeats 1000000 in
set_option maxRecDepth 100000 in
theorem diskNone_calls {W : World} {s : ByteArray} {n : Int} {v : Value} : Calls Try.prog 12 #[.string s, .int .i64 n, v] W fun e w' => e = .returned (.bool true) ∧ Below W.heap.size W w' := by
  go_enter Try.func12, Try.ntmps12
  go_wp2_with fail
  refine none_crash.mono ?_
  rintro e w1 ⟨rfl, h1⟩
  replace h1 := Aside0.mk (below_step (below_alloc (Below.refl _ _) _) h1)
  go_wp2_with fail
  refine none_read.mono ?_
  rintro e w2 ⟨rfl, h2⟩
  replace h2 := Aside0.mk (below_step h1.out h2)
  clear h1
  go_wp2_with fail
  refine none_sure.mono ?_
  rintro e w3 ⟨rfl, h3⟩
  replace h3 := Aside0.mk (below_step h2.out h3)
  clear h2
  go_wp2_with fail
  refine (live_calls _).mono ?_
  rintro e w4 ⟨rfl, h4⟩
  replace h4 := Aside0.mk (below_step h3.out h4)
  clear h3
  go_wp2_with fail
  refine none_write.mono ?_
  rintro e w5 ⟨rfl, h5⟩
  replace h5 := Aside0.mk (below_step h4.out h5)
  clear h4
  go_wp2_with fail
  refine none_cut.mono ?_
  rintro e w6 ⟨rfl, h6⟩
  replace h6 := Aside0.mk (below_step h5.out h6)
  clear h5
  go_wp2_with fail
  refine none_sync.mono ?_
  rintro e w7 ⟨rfl, h7⟩
  replace h7 := Aside0.mk (below_step h6.out h7)
  clear h6
  go_wp2_with fail
  refine none_rename.mono ?_
  rintro e w8 ⟨rfl, h8⟩
  replace h8 := Aside0.mk (below_step h7.out h8)
  clear h7
  go_wp2_with fail
  refine none_remove.mono ?_
  rintro e w9 ⟨rfl, h9⟩
  replace h9 := Aside0.mk (below_step h8.out h9)
  clear h8
  go_wp2_with fail
  refine none_names.mono ?_
  rintro e w10 ⟨rfl, h10⟩
  replace h10 := Aside0.mk (below_step h9.out h10)
  clear h9
  go_wp2_with fail
  refine none_used.mono ?_
  rintro e w11 ⟨rfl, h11⟩
  replace h11 := Aside0.mk (below_step h10.out h11)
  clear h10
  go_wp2_with fail
  refine none_fork.mono ?_
  rintro e w12 ⟨rfl, h12⟩
  replace h12 := Aside0.mk (below_step h11.out h12)
  clear h11
  go_wp2_with fail
  go_ret
  exact ⟨rfl, h12.out⟩
end Go.Proofs.Ytmmiipnmimjojaa.PS
