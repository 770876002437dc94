/- An entry and a hard state that are put are got as they were, and bytes that are taken for an entry are just its bytes. -/
import Derived.Test.YtlbioffpcoikaaaWire5
import Derived.Test.YtlbioffpcoikaaaKindsW
import Derived.Test.YtlbioffpcoikaaaPWx31
namespace Go.Proofs.Ytlbioffpcoikaaa.Pure
open Go.RowKit Go.Proofs.Ytlbioffpcoikaaa.PW Go.Proofs.YtlbioffpcoikaaaW.PrintWords Go.Proofs.YtlbioffpcoikaaaW.PrintLast
theorem wfBytes {l : List Int} (h : ∀ y ∈ l, (Lit.int .u8 y).wf = true) : ∀ x ∈ l, 0 ≤ x ∧ x < 256 := okBytes_mem (okBytes_wf h)
theorem entryBack_j1 {k : Nat} (hk : 10 < k) (l : List Int) (hok : okBytes l = true) (hl : l.length ≤ 140737488355328) : tollgatelaw02_WireEntryBack.j1 (k + 1) l = some true := by
  rw [tollgatelaw02_WireEntryBack.j1]
  unfold wire_GetEntry.f
  rw [if_pos ⟨hok, hl⟩]
  simp only [Option.bind_some]
  obtain ⟨⟨kd, t, i, d, e⟩, hg⟩ : ∃ r, getEntry l = r := ⟨_, rfl⟩
  rw [hg]
  simp only
  by_cases he : e = 0
  · subst he
    obtain ⟨h1, h2, h3⟩ := getEntry_back hok hg
    have h4 : entErr kd t i d = 0 := by unfold entErr; rw [if_neg h1, if_neg (by omega)]
    rw [if_pos rfl, PutEntry_f (by omega), if_pos h4]
    simp only [Option.bind_some, if_true, ← h3]
    simp [tollgatelaw02_live.f]
  · rw [if_neg he]; simp [tollgatelaw02_live.f]
theorem entryBack_j0 {k : Nat} (hk : 10 < k) (l : List Int) (t v : Int) (hok : okBytes l = true) (hl : l.length ≤ 140737488355328) : tollgatelaw02_WireEntryBack.j0 (k + 1 + 1) l t v = some true := by
  rw [tollgatelaw02_WireEntryBack.j0]
  rw [PutHard_f (by omega)]
  simp only [Option.bind_some]
  by_cases h : hardErr t v = 0
  · have hh : ¬ (t < 0 ∨ 1099511627776 < t ∨ v < 0 ∨ 9 < v) := fun hh => by unfold hardErr at h; rw [if_pos hh] at h; cases h
    have ht := enc_len (n := t) (by omega) (by omega)
    have hv := enc_len (n := v) (by omega) (by omega)
    have hb : okBytes (enc t ++ enc v) = true := okBytes_append (okBytes_of (enc_bytes (by omega) (by omega))) (okBytes_of (enc_bytes (by omega) (by omega)))
    rw [if_pos h]
    simp only [if_true]
    unfold wire_GetHard.f
    rw [if_pos ⟨hb, by simp only [List.length_append]; omega⟩, getHard_put h]
    simp [entryBack_j1 hk l hok hl]
  · rw [if_neg h]; simp [entryBack_j1 hk l hok hl]
theorem WireEntryBack_pure (x0 : S34) (x1 : S46) (x2 : List Int) (g0 : Good34 x0) (_ : Good46 x1) (g2 : x2.length * 1 ≤ reachBytes ∧ x2.length ≤ maxLen ∧ ∀ y ∈ x2, (Lit.int .u8 y).wf = true) :
    ∃ k, tollgatelaw02_WireEntryBack.f k x0.f0 x0.f1 x0.f2 x0.f3 x1.f0 x1.f1 x2 = some true := by
  refine ⟨13, ?_⟩
  have hl2 : x2.length ≤ 140737488355328 := by have := g2.1; simp only [reachBytes] at this; omega
  have hj := entryBack_j0 (k := 11) (by omega) x2 x1.f0 x1.f1 (okBytes_wf g2.2.2) hl2
  unfold tollgatelaw02_WireEntryBack.f
  rw [PutEntry_f (by omega)]
  simp only [Option.bind_some]
  by_cases h : entErr x0.f0 x0.f1 x0.f2 x0.f3 = 0
  · have hb : ¬ entBad x0.f0 x0.f1 x0.f2 x0.f3 := fun hh => by unfold entErr at h; rw [if_pos hh] at h; cases h
    have hd : x0.f3.length ≤ 2048 := by
      unfold entErr at h
      rw [if_neg hb] at h
      by_cases h2 : 2048 < x0.f3.length
      · rw [if_pos h2] at h; cases h
      · omega
    have hlen := entBytes_len hb hd
    rw [if_pos h]
    simp only [if_true]
    unfold wire_GetEntry.f
    rw [if_pos ⟨okBytes_of (entBytes_bytes hb hd (wfBytes g0.2.2.2.2.2)), by omega⟩, getEntry_put hb hd]
    simp only [Option.bind_some, if_true, tollgateref02_SameEntry.f, beq_self_eq_true, hj]
  · rw [if_neg h]; simp [h, hj]
end Go.Proofs.Ytlbioffpcoikaaa.Pure
