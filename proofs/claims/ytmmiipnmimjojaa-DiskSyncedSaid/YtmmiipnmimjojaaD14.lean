/- The disk's calls as a law makes them: one after another, beside the law's own rows. -/
import Derived.Test.YtmmiipnmimjojaaI1
namespace Go.Proofs.Ytmmiipnmimjojaa.PS
open Go.RowKit Go.Proofs.YtmmiipnmimjojaaW.PrintWords Go.Proofs.YtmmiipnmimjojaaW.PrintLast Go.Proofs.YtmmiipnmimjojaaW.PrintMore
open Go.Maps Go.Proofs.Ytmmiipnmimjojaa.PD
set_option linter.unusedVariables false
set_option linter.unusedSimpArgs false
/-- W0: the law's beginning; S: the disk's blocks, all of them newer. -/
def Dk (W0 W : World) (S : Nat → Prop) (g N : Nat) (D : Dsk) : Prop := Below W0.heap.size W0 W ∧ (∀ k, S k → W0.heap.size ≤ k ∧ k < W.heap.size) ∧ DskAt W S g D ∧ DInv N D
/-- What a deed at W leaves at w'. -/
def Nx (W0 W : World) (S : Nat → Prop) (w' : World) (g N : Nat) (D : Dsk) : Prop := ∃ S', Dk W0 w' S' g N D ∧ Kp W w' S ∧ ∀ k, k < W.heap.size → S' k → S k
section
variable {W0 W W1 w' : World} {S : Nat → Prop} {g N : Nat} {D : Dsk}
theorem Dk.step (h : Dk W0 W S g N D) (hb : Below W.heap.size W W1) : Dk W0 W1 S g N D :=
  ⟨below_step h.1 hb, fun k hk => ⟨(h.2.1 k hk).1, Nat.lt_of_lt_of_le (h.2.1 k hk).2 hb.size⟩, h.2.2.1.below hb, h.2.2.2⟩
theorem Dk.kp (h : Dk W0 W S g N D) {P : Nat → Prop} (hb : Below W0.heap.size W0 W1) (k : Kp W W1 P) (hP : ∀ k, S k → ¬ P k) : Dk W0 W1 S g N D :=
  ⟨hb, fun i hk => ⟨(h.2.1 i hk).1, Nat.lt_of_lt_of_le (h.2.1 i hk).2 k.size⟩, h.2.2.1.kp k (fun i _ hi => hP i hi), h.2.2.2⟩
theorem Dk.next {M : Nat} {D' : Dsk} (h : Dk W0 W S g N D) (k : Kp W w' (WR W S)) (hd : DskAt w' (Nw W w' S) g D') (hi : DInv M D') : Nx W0 W S w' g M D' := by
  have s0 := h.1.size
  have s1 := k.size
  refine ⟨Nw W w' S, ⟨h.1.trans (k.below (B := W0.heap.size) (fun i hi _ => (h.2.1 i hi.1).1) s0), fun i hx => ?_, hd, hi⟩, k.mono (fun _ hk => hk.1), fun i hi hx => ?_⟩
  · rcases hx with hx | hx
    · have := h.2.1 i hx; omega
    · omega
  · rcases hx with hx | hx
    · exact hx
    · omega
theorem Nx.of_below {M : Nat} (h : Dk W0 W S g N D) (hb : Below W.heap.size W w') (hM : N ≤ M) : Nx W0 W S w' g M D :=
  ⟨S, ⟨(h.step hb).1, (h.step hb).2.1, (h.step hb).2.2.1, h.2.2.2.mono hM⟩, Kp.of_below hb _, fun _ _ h => h⟩
theorem Dk.notWR (h : Dk W0 W S g N D) {A : Option Addr} {n : Nat} (hA : ∀ ad, A = some ad → 0 < n → ¬ S ad.block) : ∀ ad, A = some ad → 0 < n → ¬ WR W S ad.block := fun ad e hn hw => hA ad e hn hw.1
theorem dk_new (r : Int) (hr : r ≤ 9223372036854775807) (W : World) : Calls Try.prog 19 #[.int .i64 r] W fun e w' => ∃ g S, e = .returned (.pointer (some ⟨g, 0, none⟩)) ∧ Dk W w' S g 0 ⟨max 0 r, []⟩ := by
  refine (new_calls r W).mono ?_
  rintro e w' ⟨g, rfl, hd, hb⟩
  refine ⟨g, _, rfl, hb, fun k hk => ?_, hd, ⟨by dsimp only; omega, Nat.zero_le _, srt_nil, fun n f h => (List.not_mem_nil h).elim⟩⟩
  rcases hk with hk | hk
  · exact hk.elim
  · omega
theorem dk_write {s : ByteArray} {at_ : Int} {A : Option Addr} {c : Nat} {l : List Int} (h : Dk W0 W S g N D) (hN : N ≤ 1000000) (hs : s.size ≤ maxLen) (hr : k8.C W A l.length l) (hc : l.length ≤ c) (hl : l.length ≤ 140737488355328)
    (hA : ∀ ad, A = some ad → 0 < l.length → ¬ S ad.block) :
    Calls Try.prog 20 #[.pointer (some ⟨g, 0, none⟩), .string s, .int .i64 at_, .slice A l.length c] W fun e w' => e = .returned (.int .i64 (dWrite D s at_ l).1) ∧ Nx W0 W S w' g (N + 1) (dWrite D s at_ l).2 := by
  refine (write_calls h.2.2.1 hs (h.2.2.2.ok hN) (by have := h.2.2.2.used; omega) hr hc hl (h.notWR hA)).mono ?_
  rintro e w' ⟨rfl, hk, hd⟩
  exact ⟨rfl, h.next hk hd (dWrite_inv h.2.2.2)⟩
theorem dk_cut {s : ByteArray} {z : Int} (h : Dk W0 W S g N D) (hN : N ≤ 1000000) (hs : s.size ≤ maxLen) :
    Calls Try.prog 35 #[.pointer (some ⟨g, 0, none⟩), .string s, .int .i64 z] W fun e w' => e = .returned (.int .i64 (dCut D s z).1) ∧ Nx W0 W S w' g (N + 1) (dCut D s z).2 := by
  refine (cut_calls h.2.2.1 hs (h.2.2.2.ok hN)).mono ?_
  rintro e w' ⟨rfl, hk, hd⟩
  exact ⟨rfl, h.next hk hd (dCut_inv h.2.2.2)⟩
theorem dk_sync {s : ByteArray} (h : Dk W0 W S g N D) (hN : N ≤ 1000000) (hs : s.size ≤ maxLen) :
    Calls Try.prog 21 #[.pointer (some ⟨g, 0, none⟩), .string s] W fun e w' => e = .returned (.int .i64 (dSync D s).1) ∧ Nx W0 W S w' g N (dSync D s).2 := by
  refine (sync_calls h.2.2.1 hs (h.2.2.2.ok hN)).mono ?_
  rintro e w' ⟨rfl, hk, hd⟩
  exact ⟨rfl, h.next hk hd (dSync_inv h.2.2.2)⟩
theorem dk_remove {s : ByteArray} (h : Dk W0 W S g N D) (hs : s.size ≤ maxLen) :
    Calls Try.prog 34 #[.pointer (some ⟨g, 0, none⟩), .string s] W fun e w' => e = .returned (.int .i64 (dRemove D s).1) ∧ Nx W0 W S w' g N (dRemove D s).2 := by
  refine (remove_calls h.2.2.1 hs).mono ?_
  rintro e w' ⟨rfl, hk, hd⟩
  exact ⟨rfl, h.next hk hd (dRemove_inv h.2.2.2)⟩
theorem dk_rename {s t : ByteArray} (h : Dk W0 W S g N D) (hs : s.size ≤ maxLen) (ht : t.size ≤ maxLen) :
    Calls Try.prog 31 #[.pointer (some ⟨g, 0, none⟩), .string s, .string t] W fun e w' => e = .returned (.int .i64 (dRename D s t).1) ∧ Nx W0 W S w' g N (dRename D s t).2 := by
  refine (rename_calls h.2.2.1 hs ht (by have := h.2.2.2.few; omega)).mono ?_
  rintro e w' ⟨rfl, hk, hd⟩
  exact ⟨rfl, h.next hk hd (dRename_inv h.2.2.2)⟩
theorem dk_crash {A : Option Addr} {c : Nat} {keep : List Int} (h : Dk W0 W S g N D) (hN : N ≤ 1000000) (hk : (Kd.int .i64).C W A keep.length keep) (hA : ∀ ad, A = some ad → 0 < keep.length → ¬ S ad.block) (hkb : ∀ z ∈ keep, z ≤ 9223372036854775807) :
    Calls Try.prog 22 #[.pointer (some ⟨g, 0, none⟩), .slice A keep.length c] W fun e w' => e = .returned (.tuple #[]) ∧ Nx W0 W S w' g N (dCrash D keep) := by
  refine (crash_calls h.2.2.1 (h.2.2.2.ok hN) h.2.2.2.ck hk (h.notWR hA) hkb).mono ?_
  rintro e w' ⟨rfl, hk, hd⟩
  exact ⟨rfl, h.next hk hd (dCrash_inv h.2.2.2)⟩
theorem dk_read {s : ByteArray} (h : Dk W0 W S g N D) (hN : N ≤ 1000000) (hs : s.size ≤ maxLen) :
    Calls Try.prog 23 #[.pointer (some ⟨g, 0, none⟩), .string s] W fun e w' => ∃ A c, e = .returned (.tuple #[.slice A (dRead D s).1.length c, .int .i64 (dRead D s).2]) ∧ k8.R 5 w' W.heap.size (fun _ => True) (.slice A (dRead D s).1.length c) (dRead D s).1 ∧ Below W.heap.size W w' := by
  refine (read_calls h.2.2.1 hs (h.2.2.2.ok hN)).mono ?_
  rintro e w' ⟨v, rfl, ht, hb⟩
  obtain ⟨A, c, rfl⟩ := Kd.R_slice ht.R
  exact ⟨A, c, rfl, ht.R, hb⟩
theorem dk_sure {s : ByteArray} (h : Dk W0 W S g N D) (hN : N ≤ 1000000) (hs : s.size ≤ maxLen) :
    Calls Try.prog 40 #[.pointer (some ⟨g, 0, none⟩), .string s] W fun e w' => ∃ A c, e = .returned (.tuple #[.slice A (dSure D s).1.length c, .int .i64 (dSure D s).2]) ∧ k8.R 5 w' W.heap.size (fun _ => True) (.slice A (dSure D s).1.length c) (dSure D s).1 ∧ Below W.heap.size W w' := by
  refine (sure_calls h.2.2.1 hs (h.2.2.2.ok hN)).mono ?_
  rintro e w' ⟨v, rfl, ht, hb⟩
  obtain ⟨A, c, rfl⟩ := Kd.R_slice ht.R
  exact ⟨A, c, rfl, ht.R, hb⟩
theorem dk_used (h : Dk W0 W S g N D) : Calls Try.prog 45 #[.pointer (some ⟨g, 0, none⟩)] W fun e w' => e = .returned (.int .i64 (usedB D.files)) ∧ Below W.heap.size W w' :=
  used_calls h.2.2.1 (by have := h.2.2.2.used; omega)
theorem dk_names (h : Dk W0 W S g N D) : Calls Try.prog 25 #[.pointer (some ⟨g, 0, none⟩)] W fun e w' => ∃ A c, e = .returned (.slice A (namesB D.files).length c) ∧ Kd.R Kd.string 9 w' W.heap.size (fun _ => True) (.slice A (namesB D.files).length c) (namesB D.files) ∧ Below W.heap.size W w' := by
  refine (names_calls h.2.2.1 (by have := h.2.2.2.few; omega)).mono ?_
  rintro e w' ⟨v, rfl, hr, hb⟩
  obtain ⟨A, c, rfl⟩ := Kd.R_slice hr
  exact ⟨A, c, rfl, hr, hb⟩
end
/-- A literal row, as it is read. -/
theorem C_lit (K : IntKind) (w : World) (l : List Int) (t : TypeId) (hl : l.length ≤ 9223372036854775807) (fr : Nat × Nat) {A : Option Addr} (hA : A = some ⟨w.heap.size, 0, none⟩) : (Kd.int K).C (w.alloc (.cells (l.map (Value.int K)).toArray t fr)) A l.length l := by
  refine ⟨rfl, hl, fun _ => ⟨_, hA, fun j p hj => ⟨[.int K p], rfl, rfl, fun i u hu => ?_⟩⟩⟩
  have hi : i = 0 := by
    rcases i with _ | i
    · rfl
    · simp at hu
  subst hi
  simp at hu
  subst hu
  have e : ({ block := w.heap.size, off := 0 } : Addr).add (j * (Kd.int K).sz + 0) = ⟨w.heap.size, j, none⟩ := by
    rw [show (Kd.int K).sz = 1 from rfl, show j * 1 + 0 = j by omega]
    simp [Addr.add]
    exact fun h => h.symm
  rw [e, cell_of_row _ _ j _ _ fr (blk_new w _)]
  simp [hj]
/-- '[]byte("..")' with a constant. -/
theorem conv_lit (n c : Nat) (w : World) (C : Array Value) : (convert 22 22 (.slice (some ⟨w.heap.size, 0, none⟩) n c)).run Try.prog (w.alloc (.cells C 5)) = .ok (.slice (some ⟨w.heap.size, 0, none⟩) n c) (w.alloc (.cells C 5 (C.size, C.size + 1))) := by
  have hsh : (w.alloc (.cells C 5)).shape? w.heap.size = some (5, C.size) := by
    have : (w.alloc (.cells C 5)).heap[w.heap.size]? = some (.cells C 5) := blk_new w _
    unfold World.shape?
    rw [this]
  have hfr : (w.alloc (.cells C 5)).freeze ⟨w.heap.size, C.size, none⟩ 1 = w.alloc (.cells C 5 (C.size, C.size + 1)) := by
    have hm : ∀ (a : Array Obj) (x : Obj) (f : Obj → Obj), (a.push x).modify a.size f = a.push (f x) := by
      intro a x f
      apply Array.ext
      · simp
      · intro i h1 h2
        simp only [Array.getElem_modify, Array.getElem_push]
        by_cases h : a.size = i
        · subst h
          simp
        · have hi : i < a.size := by simp at h1; omega
          simp [h, hi]
    unfold World.freeze
    rw [if_neg (by decide)]
    show ({ w.alloc (.cells C 5) with heap := (w.heap.push (.cells C 5)).modify w.heap.size _ } : World) = _
    rw [hm]
    rfl
  simp [convert, run_underlying Try.underlying22, run_underlying Try.underlying5, markStringish, hsh]
  exact hfr
end Go.Proofs.Ytmmiipnmimjojaa.PS
