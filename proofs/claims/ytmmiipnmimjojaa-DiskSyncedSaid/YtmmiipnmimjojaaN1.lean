/- What a name is. -/
import Derived.Test.YtmmiipnmimjojaaPSx3
import Derived.Test.YtmmiipnmimjojaaPSx23
namespace Go.Proofs.Ytmmiipnmimjojaa.PS
open Go.RowKit Go.Proofs.YtmmiipnmimjojaaW.PrintWords Go.Proofs.YtmmiipnmimjojaaW.PrintLast Go.Proofs.YtmmiipnmimjojaaW.PrintMore
set_option linter.unusedVariables false
set_option linter.unusedSimpArgs false
def okc (c : Int) : Bool := (decide (c ≥ 97) && decide (c ≤ 122)) || (decide (c ≥ 48) && decide (c ≤ 57)) || decide (c = 45) || decide (c = 46)
def allFrom (s : ByteArray) : Nat → Int → Bool
  | 0, _ => true
  | m + 1, i => okc (bt s i) && allFrom s m (i + 1)
def namedB (s : ByteArray) : Bool := decide (1 ≤ s.size) && decide (s.size ≤ 64) && allFrom s s.size 0
theorem okc_if {α : Type} (c : Int) (x y : α) : (if c ≥ 97 then (if c ≤ 122 then x else (if c ≥ 48 then (if c ≤ 57 then x else (if c = 45 then x else (if c = 46 then x else y))) else (if c = 45 then x else (if c = 46 then x else y)))) else (if c ≥ 48 then (if c ≤ 57 then x else (if c = 45 then x else (if c = 46 then x else y))) else (if c = 45 then x else (if c = 46 then x else y)))) = if okc c = true then x else y := by
  unfold okc
  by_cases h1 : c ≥ 97 <;> by_cases h2 : c ≤ 122 <;> by_cases h3 : c ≥ 48 <;> by_cases h4 : c ≤ 57 <;> by_cases h5 : c = 45 <;> by_cases h6 : c = 46 <;> simp [h1, h2, h3, h4, h5, h6] <;> omega
theorem wrap_succ {i : Int} (h0 : 0 ≤ i) (h : i ≤ 9223372036854775806) : wrap64 (i + 1) = i + 1 := by unfold wrap64; omega
theorem named_l0 (s : ByteArray) (hs : s.size ≤ 9223372036854775807) : ∀ (m k : Nat) (i : Int), 0 ≤ i → i + m = s.size → m < k → disk_named.l0 k s (s.size : Int) i = some (allFrom s m i)
  | 0, k + 1, i, h0, h1, _ => by rw [disk_named.l0, if_neg (by omega)]; rfl
  | m + 1, k + 1, i, h0, h1, hk => by
    have ih := named_l0 s hs m k (i + 1) (by omega) (by omega) (by omega)
    rw [disk_named.l0, if_pos (by omega), if_pos h0, if_pos (by omega), wrap_succ h0 (by omega), ih, okc_if, allFrom]
    cases okc (bt s i) <;> simp
theorem named_f (s : ByteArray) (hs : s.size ≤ 9223372036854775807) {k : Nat} (hk : s.size + 1 < k) : disk_named.f k s = some (namedB s) := by
  obtain ⟨k, rfl⟩ : ∃ j, k = j + 1 := ⟨k - 1, by omega⟩
  unfold disk_named.f namedB
  by_cases h0 : (s.size : Int) = 0
  · have : ¬ 1 ≤ s.size := by omega
    rw [if_pos h0, disk_named.j0, if_pos rfl]; simp [this]
  · have h1 : 1 ≤ s.size := by omega
    rw [if_neg h0, disk_named.j0]
    by_cases h2 : (s.size : Int) > 64
    · have : ¬ s.size ≤ 64 := by omega
      rw [if_pos (by simpa using h2)]; simp [this]
    · have h3 : s.size ≤ 64 := by omega
      rw [if_neg (by simpa using h2), named_l0 s hs s.size k 0 (by omega) (by omega) (by omega)]; simp [h1, h3]
theorem rnamed_l0 (s : ByteArray) (hs : s.size ≤ 9223372036854775807) : ∀ (m k : Nat) (i : Int), 0 ≤ i → i + m = s.size → m < k → tollgateref05_Named.l0 k s i = some (allFrom s m i && decide (1 ≤ s.size) && decide (s.size ≤ 64))
  | 0, k + 1, i, h0, h1, _ => by
    rw [tollgateref05_Named.l0, if_neg (by omega), allFrom]
    by_cases h : (s.size : Int) ≥ 1
    · have h' : 1 ≤ s.size := by omega
      rw [if_pos h]; simp [h']; omega
    · have h' : ¬ 1 ≤ s.size := by omega
      rw [if_neg h]; simp [h']
  | m + 1, k + 1, i, h0, h1, hk => by
    have ih := rnamed_l0 s hs m k (i + 1) (by omega) (by omega) (by omega)
    rw [tollgateref05_Named.l0, if_pos (by omega), if_pos h0, wrap_succ h0 (by omega), ih, okc_if, allFrom]
    cases okc (bt s i) <;> simp
theorem rnamed_f (s : ByteArray) (hs : s.size ≤ 9223372036854775807) {k : Nat} (hk : s.size < k) : tollgateref05_Named.f k s = some (namedB s) := by
  unfold tollgateref05_Named.f namedB
  rw [rnamed_l0 s hs s.size k 0 (by omega) (by omega) hk]
  congr 1
  cases allFrom s s.size 0 <;> cases decide (1 ≤ s.size) <;> cases decide (s.size ≤ 64) <;> rfl
theorem named_calls (s : ByteArray) (hs : s.size ≤ 9223372036854775807) (w : World) : Calls Try.prog 57 #[.string s] w fun e w' => e = .returned (.bool (namedB s)) ∧ Drawn0 w w' :=
  disk_named.calls (s.size + 2) s (namedB s) w (named_f s hs (by omega))
theorem rnamed_calls (s : ByteArray) (hs : s.size ≤ 9223372036854775807) (w : World) : Calls Try.prog 24 #[.string s] w fun e w' => e = .returned (.bool (namedB s)) ∧ Drawn0 w w' :=
  tollgateref05_Named.calls (s.size + 2) s (namedB s) w (rnamed_f s hs (by omega))
theorem namedB_size {s : ByteArray} (h : namedB s = true) : s.size ≤ 64 := by
  unfold namedB at h
  simp only [Bool.and_eq_true, decide_eq_true_eq] at h
  exact h.1.2
end Go.Proofs.Ytmmiipnmimjojaa.PS
