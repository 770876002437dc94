/- MemberRight: what the law's function answers. -/
import Derived.Test.YthmamgnobcnhgaaMember8
import Derived.Test.YthmamgnobcnhgaaPMx37
import Derived.Test.YthmamgnobcnhgaaKindsM
namespace Go.Proofs.Ythmamgnobcnhgaa.Pure
open Go.RowKit Go.Proofs.Ythmamgnobcnhgaa.PM Go.Proofs.YthmamgnobcnhgaaW.PrintWords Go.Proofs.YthmamgnobcnhgaaW.PrintLast
theorem rall_l0 (V L : List Int) (hV : V.length ≤ 140737488355328) (hL : L.length ≤ 140737488355328) (hR : rightB V L = true) : ∀ (m k : Nat) (i : Int) (acc : List Int), i + m = 10 → 2 * m + V.length + L.length + 5 < k → acc.length + m ≤ 100 →
    tollgateref03_All.l0 k acc i V L = some (acc ++ nodes (fun x => V.contains x || L.contains x) m i)
  | 0, k + 1, i, acc, h1, hk, ha => by
    obtain ⟨j, rfl⟩ : ∃ j, k = j + 1 := ⟨k - 1, by omega⟩
    rw [tollgateref03_All.l0, if_neg (by omega), tollgateref03_All.j1, if_neg (by decide), nodes, List.append_nil]
  | m + 1, k + 1, i, acc, h1, hk, ha => by
    obtain ⟨j, rfl⟩ : ∃ j, k = j + 1 := ⟨k - 1, by omega⟩
    have hp := right_parts hR
    rw [tollgateref03_All.l0, if_pos (by omega), refRight_f V L (by omega) (by omega) (by omega), hR]
    simp only [Option.bind_some]
    rw [tollgateref03_All.j1, if_pos rfl, In_f V i (by omega) (by omega)]
    simp only [Option.bind_some]
    rw [In_f L i (by omega) (by omega)]
    simp only [Option.bind_some]
    rw [nodes]
    have hw : wrap64 (i + 1) = i + 1 := wrap64_in (by omega)
    rw [hw]
    cases V.contains i
    · rw [if_neg (by decide)]
      cases L.contains i
      · rw [if_neg (by decide), if_neg (by decide)]
        exact rall_l0 V L hV hL hR m j (i + 1) acc (by omega) (by omega) (by omega)
      · rw [if_pos rfl, if_pos (by omega), if_pos (by simp), rall_l0 V L hV hL hR m j (i + 1) _ (by omega) (by omega) (by simp; omega)]
        simp
    · rw [if_pos rfl, if_pos (by omega), if_pos (by simp), rall_l0 V L hV hL hR m j (i + 1) _ (by omega) (by omega) (by simp; omega)]
      simp
theorem all_nodes {V L : List Int} (hR : rightB V L = true) : sortI (V ++ L) = nodes (fun x => V.contains x || L.contains x) 9 1 := by
  obtain ⟨u1, u2, _, _, _, h6, h7, h8⟩ := right_parts hR
  have hn : (V ++ L).Nodup := List.nodup_append.2 ⟨ups_nodup V 0 u1, ups_nodup L 0 u2, fun a ha b hb e => h8 b hb (e ▸ ha)⟩
  refine asc_ext _ _ (sortI_asc hn) (nodes_asc _ _ _) (fun x => ?_)
  rw [sortI_mem, nodes_mem, List.mem_append, Bool.or_eq_true, List.contains_iff_mem, List.contains_iff_mem]
  constructor
  · rintro (h | h)
    · have := h6 x h; exact ⟨by omega, by omega, .inl h⟩
    · have := h7 x h; exact ⟨by omega, by omega, .inr h⟩
  · exact fun h => h.2.2
theorem refAll_f {V L : List Int} (hV : V.length ≤ 140737488355328) (hL : L.length ≤ 140737488355328) {k : Nat} (hk : V.length + L.length + 100 < k) : tollgateref03_All.f k V L = some (if rightB V L then sortI (V ++ L) else []) := by
  unfold tollgateref03_All.f
  cases hR : rightB V L
  · obtain ⟨j, rfl⟩ : ∃ j, k = j + 2 := ⟨k - 2, by omega⟩
    rw [tollgateref03_All.l0, if_pos (by decide), refRight_f V L (by omega) (by omega) (by omega), hR]
    simp only [Option.bind_some]
    rw [tollgateref03_All.j1, if_neg (by decide)]
    rfl
  · rw [rall_l0 V L hV hL hR 9 k 1 [] (by omega) (by omega) (by simp), all_nodes hR]
    simp
theorem MemberRight_pure (x0 : S24) (x1 : Int) (g0 : Good24 x0) (_ : (Lit.int .i64 x1).wf = true) : ∃ k, tollgatelaw03_MemberRight.f k x0.f0 x0.f1 x1 = some true := by
  obtain ⟨V, L⟩ := x0
  have hV := reach8 g0.1.1
  have hL := reach8 g0.2.1
  simp only at hV hL
  refine ⟨V.length + L.length + 400, ?_⟩
  show tollgatelaw03_MemberRight.f (V.length + L.length + 400) V L x1 = some true
  unfold tollgatelaw03_MemberRight.f
  rw [live_f (by omega), Right_f (by omega) (by omega), refRight_f V L (by omega) (by omega) (by omega), refAll_f (by omega) (by omega) (by omega)]
  unfold member_Voter.f tollgateref03_Voter.f member_All.f
  rw [Right_f (by omega) (by omega), refRight_f V L (by omega) (by omega) (by omega), if_pos ⟨by omega, by omega⟩]
  simp only [Option.bind_some, slices_Contains_int_int.f]
  rw [In_f V x1 (by omega) (by omega)]
  cases hR : rightB V L
  · simp only [Option.bind_some]
    rw [SameInts_f _ _ (by simp) (by simp)]
    simp
  · obtain ⟨_, _, _, h4, h5, _⟩ := right_parts hR
    simp only [Option.bind_some]
    rw [SameInts_f _ _ (by rw [if_pos trivial, sortI_length, List.length_append]; omega) (by rw [if_pos trivial, sortI_length, List.length_append]; omega)]
    simp
end Go.Proofs.Ythmamgnobcnhgaa.Pure
