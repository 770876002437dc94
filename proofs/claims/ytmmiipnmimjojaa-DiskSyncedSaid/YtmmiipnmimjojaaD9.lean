/- disk.New. -/
import Derived.Test.YtmmiipnmimjojaaD8
namespace Go.Proofs.Ytmmiipnmimjojaa.PS
open Go.RowKit Go.Proofs.YtmmiipnmimjojaaW.PrintWords Go.Proofs.YtmmiipnmimjojaaW.PrintLast Go.Proofs.YtmmiipnmimjojaaW.PrintMore
open Go.Maps Go.Proofs.Ytmmiipnmimjojaa.PD
set_option linter.unusedVariables false
set_option linter.unusedSimpArgs false
theorem new_fin (W : World) (r : Int) : DskAt ((W.alloc (.map #[] 0)).alloc (.cells #[.int .i64 r, .map (some W.heap.size)] 105 (0, 0))) (Nw W ((W.alloc (.map #[] 0)).alloc (.cells #[.int .i64 r, .map (some W.heap.size)] 105 (0, 0))) (fun _ => False)) (W.heap.size + 1) ⟨r, []⟩ ∧
    Below W.heap.size W ((W.alloc (.map #[] 0)).alloc (.cells #[.int .i64 r, .map (some W.heap.size)] 105 (0, 0))) := by
  have hb1 := below_alloc (Below.refl W.heap.size W) (.map #[] 0)
  have hb2 := below_alloc hb1 (.cells #[.int .i64 r, .map (some W.heap.size)] 105 (0, 0))
  have hz : (W.alloc (.map #[] 0)).heap.size = W.heap.size + 1 := by simp
  have hz2 : ((W.alloc (.map #[] 0)).alloc (.cells #[.int .i64 r, .map (some W.heap.size)] 105 (0, 0))).heap.size = W.heap.size + 2 := by simp
  refine ⟨⟨W.heap.size, fun _ => 0, [], ⟨.inr ⟨by omega, by omega⟩, .inr ⟨by omega, by omega⟩, ?_, ?_, srt_nil, ⟨fun _ _ _ h => (List.not_mem_nil h).elim, List.nodup_nil⟩⟩, rfl⟩, hb2⟩
  · have := blk_new (W.alloc (.map #[] 0)) (.cells #[.int .i64 r, .map (some W.heap.size)] 105 (0, 0))
    rw [hz] at this
    exact this
  · exact (Tbl.made W).step (Below.heap_alloc _ _ _ (by omega))
set_option maxRecDepth 100000 in
/-- disk.New -/
theorem new_calls (r : Int) (W : World) : Calls Try.prog 19 #[.int .i64 r] W fun e w' => ∃ g, e = .returned (.pointer (some ⟨g, 0, none⟩)) ∧ DskAt w' (Nw W w' (fun _ => False)) g ⟨max 0 r, []⟩ ∧ Below W.heap.size W w' := by
  have HF := Aside0.mk (fun r => new_fin W r)
  have hmm := @run_makeMap Try.prog
  go_enter Try.func19, Try.ntmps19
  go_wp2
  go_ret
  exact ⟨_, rfl, HF.out _⟩
end Go.Proofs.Ytmmiipnmimjojaa.PS
