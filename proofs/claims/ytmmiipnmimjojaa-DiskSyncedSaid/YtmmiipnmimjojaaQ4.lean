/- DiskFiles: what stays true through its loop. -/
import Derived.Test.YtmmiipnmimjojaaL1
import Derived.Lib.SlicesS
import Derived.WalkLawsBesides
namespace Go.Proofs.Ytmmiipnmimjojaa.PS
open Go.RowKit Go.Proofs.YtmmiipnmimjojaaW.PrintWords Go.Proofs.YtmmiipnmimjojaaW.PrintLast Go.Proofs.YtmmiipnmimjojaaW.PrintMore
open Go.Maps Go.Proofs.Ytmmiipnmimjojaa.PD
set_option linter.unusedVariables false
set_option linter.unusedSimpArgs false
/-- The names that are there: just the disk's; all files are empty. -/
structure FJ (N : Nat) (D : Dsk) (th : List ByteArray) : Prop where
  inv : DInv N D
  room : D.room = 0
  none_ : ∀ p ∈ D.files, p.2.f0 = []
  same : ∀ s : ByteArray, s ∈ th ↔ (aget s.data.toList D.files).isSome = true
  len : th.length = D.files.length
def knownB (th : List ByteArray) (s : ByteArray) : Bool := th.any fun t => decide (t = s)
theorem known_iff {th : List ByteArray} {s : ByteArray} : knownB th s = true ↔ s ∈ th := by
  unfold knownB
  rw [List.any_eq_true]
  exact ⟨fun ⟨t, h, e⟩ => by have := of_decide_eq_true e; rw [← this]; exact h, fun h => ⟨s, h, decide_eq_true rfl⟩⟩
theorem beq_str (x y : ByteArray) : (x.toList == y.toList) = decide (x = y) := by
  by_cases e : x = y
  · rw [decide_eq_true e]; exact (Lib.bytes_beq_iff x y).2 e
  · rw [decide_eq_false e]; exact (Lib.bytes_beq_false_iff x y).2 e
theorem known_take {th : List ByteArray} {s x : ByteArray} {k : Int} (h0 : 0 ≤ k) (h1 : k < th.length) (hx : th.getD k.toNat ByteArray.empty = x) :
    knownB (th.take (k + 1).toNat) s = (knownB (th.take k.toNat) s || decide (x = s)) := by
  rw [show (k + 1).toNat = k.toNat + 1 by omega, List.take_succ_eq_append_getElem (by omega)]
  rw [List.getD_eq_getElem?_getD, List.getElem?_eq_getElem (show k.toNat < th.length by omega)] at hx
  simp at hx
  unfold knownB
  rw [List.any_append, hx]
  simp
theorem used_none {l : List (Nm × Fil)} (h : ∀ p ∈ l, p.2.f0 = []) : usedB l = 0 := by
  have := usedB_le (B := 0) (l := l) (fun p hp => by rw [h p hp]; exact Nat.le_refl _)
  simpa using this
theorem fj_zero : FJ 0 ⟨max 0 0, []⟩ [] := by
  refine ⟨⟨by decide, Nat.zero_le _, srt_nil, fun n f h => (List.not_mem_nil h).elim⟩, rfl, (fun p h => (List.not_mem_nil h).elim), fun s => ?_, rfl⟩
  show s ∈ [] ↔ (none : Option Fil).isSome = true
  simp
theorem fj_mono {N M : Nat} {D : Dsk} {th : List ByteArray} (h : FJ N D th) (hm : N ≤ M) : FJ M D th := ⟨h.inv.mono hm, h.room, h.none_, h.same, h.len⟩
theorem wf_nil (f : Fil) (h : f.f0 = []) : (wFil f 0 []).f0 = [] := by
  show layL f.f0 _ [] = []
  rw [h]; rfl
theorem fj_bad {D : Dsk} {s : ByteArray} (hn : namedB s = false) : dWrite D s 0 [] = (14, D) := by unfold dWrite; rw [if_pos hn]
theorem fj_file {N : Nat} {D : Dsk} {th : List ByteArray} (h : FJ N D th) (s : ByteArray) : ((aget s.data.toList D.files).getD z110).f0 = [] := by
  cases hg : aget s.data.toList D.files with
  | none => rfl
  | some f => exact h.none_ _ (aget_mem hg)
theorem fj_full {N : Nat} {D : Dsk} {th : List ByteArray} (h : FJ N D th) {s : ByteArray} (hn : namedB s = true) (hs : s ∉ th) (hl : 16 ≤ th.length) : dWrite D s 0 [] = (6, D) := by
  have hf := fj_file h s
  have hsome : (aget s.data.toList D.files).isSome = false := by
    cases hq : (aget s.data.toList D.files).isSome with
    | false => rfl
    | true => exact absurd ((h.same s).2 hq) hs
  unfold dWrite
  rw [if_neg (by rw [hn]; decide)]
  unfold dW2
  rw [if_neg (by rw [hf]; decide), if_pos (.inl ⟨hsome, by rw [← h.len]; exact hl⟩)]
theorem fj_ok {N : Nat} {D : Dsk} {th : List ByteArray} (h : FJ N D th) {s : ByteArray} (hn : namedB s = true) (hl : s ∈ th ∨ th.length < 16) :
    dWrite D s 0 [] = (0, ⟨D.room, aput s.data.toList (wFil ((aget s.data.toList D.files).getD z110) 0 []) D.files⟩) := by
  have hf := fj_file h s
  have hm : moreB ((aget s.data.toList D.files).getD z110) 0 [] = 0 := by unfold moreB; rw [hf]; rfl
  unfold dWrite
  rw [if_neg (by rw [hn]; decide)]
  unfold dW2
  rw [if_neg (by rw [hf]; decide), if_neg (by
    rw [hm, hf]
    rintro (⟨a, b⟩ | a)
    · rcases hl with hl | hl
      · rw [(h.same s).1 hl] at a; cases a
      · have := h.len; omega
    · exact absurd a (by decide)), if_neg (by rw [hm, used_none h.none_, h.room]; decide)]
theorem fj_step {N : Nat} {D : Dsk} {th : List ByteArray} (h : FJ N D th) {s : ByteArray} (hn : namedB s = true) (hl : s ∈ th ∨ th.length < 16) :
    FJ (N + 1) (dWrite D s 0 []).2 (if knownB th s = true then th else th ++ [s]) := by
  have hi := dWrite_inv (s := s) (at_ := 0) (b := []) h.inv
  have hf := fj_file h s
  rw [fj_ok h hn hl] at hi ⊢
  refine ⟨hi, h.room, fun p hp => ?_, fun t => ?_, ?_⟩
  · rcases (aput_mem h.inv.srt).1 hp with e | ⟨hp, _⟩
    · rw [e]; exact wf_nil _ hf
    · exact h.none_ p hp
  · show _ ↔ (aget t.data.toList (aput s.data.toList _ D.files)).isSome = true
    rw [aget_put h.inv.srt]
    by_cases e : t = s
    · subst e
      rw [if_pos rfl]
      by_cases hm : knownB th t = true
      · rw [if_pos hm]; simp [known_iff.1 hm]
      · rw [if_neg hm]; simp
    · have ne : t.data.toList ≠ s.data.toList := fun h' => ne_str e h'
      rw [if_neg ne, ← h.same t]
      by_cases hm : knownB th s = true
      · rw [if_pos hm]
      · rw [if_neg hm]; simp [e]
  · show _ = (aput s.data.toList _ D.files).length
    rw [aput_len h.inv.srt]
    by_cases hm : knownB th s = true
    · rw [if_pos hm, if_pos ((h.same s).1 (known_iff.1 hm))]; exact h.len
    · rw [if_neg hm, if_neg (by rw [← h.same s, ← known_iff]; exact hm)]
      simp [h.len]
/-- Names rise. -/
theorem names_rise {l : List (Nm × Fil)} (h : Srt l) {i : Nat} (h1 : 1 ≤ i) (h2 : i < (namesB l).length) :
    nlt ((namesB l).getD (i - 1) ByteArray.empty).data.toList ((namesB l).getD i ByteArray.empty).data.toList = true := by
  have hl : (namesB l).length = l.length := by simp [namesB]
  have hg : ∀ j (hj : j < l.length), (namesB l).getD j ByteArray.empty = str l[j].1 := by
    intro j hj
    simp [namesB, hj]
  rw [hg _ (by omega), hg _ (by omega)]
  exact List.pairwise_iff_getElem.1 h (i - 1) i (by omega) (by omega) (by omega)
theorem leq_no {x y : ByteArray} (h : nlt y.data.toList x.data.toList = true) : (Op.bytesLess x.toList y.toList || x.toList == y.toList) = false := by
  rw [beq_str, ByteArray.toList_eq, ByteArray.toList_eq, show Op.bytesLess x.data.toList y.data.toList = false from nlt_asymm h, decide_eq_false (fun e => nlt_ne h (by rw [e]))]
  rfl
theorem cellS {w : World} {ad : Addr} {n : Nat} {l : List ByteArray} (h : Kd.string.C w (some ad) n l) {i : Int} (h0 : 0 ≤ i) (h1 : i < n) : w.cell? (ad.add i.toNat) = some (.string (l.getD i.toNat ByteArray.empty)) := by
  obtain ⟨ad', c, e, _, hcs, hx0⟩ := Kd.C_get h ByteArray.empty i h0 h1
  cases e
  rw [show c = [.string (l.getD i.toNat ByteArray.empty)] from hcs] at hx0
  have := hx0 0 _ rfl
  rwa [Nat.add_zero, show i.toNat * Kd.string.sz = i.toNat from Nat.mul_one _] at this
theorem C_some {α : Type} {d : Kd α} {w : World} {A : Option Addr} {l : List α} (h : d.C w A l.length l) (hn : l ≠ []) : ∃ ad, A = some ad := by
  cases A with
  | none => exact absurd (nil_of_C h) hn
  | some ad => exact ⟨ad, rfl⟩
theorem cellI {K : IntKind} {w : World} {ad : Addr} {n : Nat} {l : List Int} (h : (Kd.int K).C w (some ad) n l) {i : Int} (h0 : 0 ≤ i) (h1 : i < n) {x : Int} (hx : l.getD i.toNat 0 = x) : w.cell? (ad.add i.toNat) = some (.int K x) := by
  obtain ⟨ad', c, e, _, hcs, hx0⟩ := Kd.C_get h 0 i h0 h1
  cases e
  rw [show c = [.int K (l.getD i.toNat 0)] from hcs, hx] at hx0
  have := hx0 0 _ rfl
  rwa [Nat.add_zero, show i.toNat * (Kd.int K).sz = i.toNat from Nat.mul_one _] at this
end Go.Proofs.Ytmmiipnmimjojaa.PS
